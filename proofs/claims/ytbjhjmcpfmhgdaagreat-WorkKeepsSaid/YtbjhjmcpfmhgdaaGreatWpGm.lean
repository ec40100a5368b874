import Derived.Test.YtbjhjmcpfmhgdaaGreatWpLe
set_option linter.all false
namespace Sg
open Go
structure Source where
 bus:Int
 kind:Int
 power:Int
 sync:Int
 ohm:Int
instance:Inhabited Source:=⟨⟨default,default,default,default,default⟩⟩
def Source.cell (x:Source):Nat→DV
 |0=>(.int .i64 x.bus)
 |1=>(.int .i64 x.kind)
 |2=>(.int .i64 x.power)
 |3=>(.int .i64 x.sync)
 |4=>(.int .i64 x.ohm)
 |_=> .nilp
structure nJ where
 amps:Int
 millis:Int
instance:Inhabited nJ:=⟨⟨default,default⟩⟩
def nJ.cell (x:nJ):Nat→DV
 |0=>(.int .i64 x.amps)
 |1=>(.int .i64 x.millis)
 |_=> .nilp
structure Link where
 a:Int
 b:Int
 kind:Int
 most:Int
 ohm:Int
 trip:(List nJ)
instance:Inhabited Link:=⟨⟨default,default,default,default,default,default⟩⟩
def Link.cell (x:Link):Nat→DV
 |0=>(.int .i64 x.a)
 |1=>(.int .i64 x.b)
 |2=>(.int .i64 x.kind)
 |3=>(.int .i64 x.most)
 |4=>(.int .i64 x.ohm)
 |5=>(aS none 2 nJ.cell x.trip)
 |_=> .nilp
structure ay where
 e0:Int
 e1:Int
instance:Inhabited ay:=⟨⟨default,default⟩⟩
def ay.cell (x:ay):Nat→DV
 |0=>(.int .i64 x.e0)
 |1=>(.int .i64 x.e1)
 |_=> .nilp
structure aN where
 feeds:ay
 power:Int
 paths:Int
instance:Inhabited aN:=⟨⟨default,default,default⟩⟩
def aN.cell (x:aN):Nat→DV
 |0=>(.int .i64 x.feeds.e0)
 |1=>(.int .i64 x.feeds.e1)
 |2=>(.int .i64 x.power)
 |3=>(.int .i64 x.paths)
 |_=> .nilp
structure aD where
 buses:Int
 sources:(List Source)
 links:(List Link)
 racks:(List aN)
instance:Inhabited aD:=⟨⟨default,default,default,default⟩⟩
def aD.cell (x:aD):Nat→DV
 |0=>(.int .i64 x.buses)
 |1=>(aS none 5 Source.cell x.sources)
 |2=>(aS none 6 Link.cell x.links)
 |3=>(aS none 4 aN.cell x.racks)
 |_=> .nilp
structure State where
 closed:(List Bool)
 locked:(List Bool)
 badLink:(List Bool)
 on_:(List Bool)
 badSource:(List Bool)
 earthed:(List Bool)
 badBus:(List Bool)
instance:Inhabited State:=⟨⟨default,default,default,default,default,default,default⟩⟩
def State.cell (x:State):Nat→DV
 |0=>(aS none 1 ai x.closed)
 |1=>(aS none 1 ai x.locked)
 |2=>(aS none 1 ai x.badLink)
 |3=>(aS none 1 ai x.on_)
 |4=>(aS none 1 ai x.badSource)
 |5=>(aS none 1 ai x.earthed)
 |6=>(aS none 1 ai x.badBus)
 |_=> .nilp
structure bT where
 l:(List Bool)
 n:Int
instance:Inhabited bT:=⟨⟨default,default⟩⟩
def bT.cell (x:bT):Nat→DV
 |0=>(aS none 1 ai x.l)
 |1=>(.int .i64 x.n)
 |_=> .nilp
structure Transfer where
 watch:Int
 open_:Int
 close:Int
instance:Inhabited Transfer:=⟨⟨default,default,default⟩⟩
def Transfer.cell (x:Transfer):Nat→DV
 |0=>(.int .i64 x.watch)
 |1=>(.int .i64 x.open_)
 |2=>(.int .i64 x.close)
 |_=> .nilp
structure aU where
 head:(List (Int × Int))
instance:Inhabited aU:=⟨⟨default⟩⟩
def aU.cell (x:aU):Nat→DV
 |0=> .nilp
 |_=> .nilp
structure aJ where
 buses:(List Int)
 sources:(List Int)
instance:Inhabited aJ:=⟨⟨default,default⟩⟩
def aJ.cell (x:aJ):Nat→DV
 |0=>(aS none 1 (aF .i64) x.buses)
 |1=>(aS none 1 (aF .i64) x.sources)
 |_=> .nilp
structure Part where
 kind:Int
 index:Int
instance:Inhabited Part:=⟨⟨default,default⟩⟩
def Part.cell (x:Part):Nat→DV
 |0=>(.int .i64 x.kind)
 |1=>(.int .i64 x.index)
 |_=> .nilp
structure eP where
 parts:(List Part)
 hours:Int
 from_:Int
 to_:Int
 people:Int
 after:(List Int)
instance:Inhabited eP:=⟨⟨default,default,default,default,default,default⟩⟩
def eP.cell (x:eP):Nat→DV
 |0=>(aS none 2 Part.cell x.parts)
 |1=>(.int .i64 x.hours)
 |2=>(.int .i64 x.from_)
 |3=>(.int .i64 x.to_)
 |4=>(.int .i64 x.people)
 |5=>(aS none 1 (aF .i64) x.after)
 |_=> .nilp
structure ah where
 plant:aD
 state:State
 transfers:(List Transfer)
 jobs:(List eP)
 people:Int
 redundant:Bool
instance:Inhabited ah:=⟨⟨default,default,default,default,default,default⟩⟩
def ah.cell (x:ah):Nat→DV
 |0=>(.int .i64 x.plant.buses)
 |1=>(aS none 5 Source.cell x.plant.sources)
 |2=>(aS none 6 Link.cell x.plant.links)
 |3=>(aS none 4 aN.cell x.plant.racks)
 |4=>(aS none 1 ai x.state.closed)
 |5=>(aS none 1 ai x.state.locked)
 |6=>(aS none 1 ai x.state.badLink)
 |7=>(aS none 1 ai x.state.on_)
 |8=>(aS none 1 ai x.state.badSource)
 |9=>(aS none 1 ai x.state.earthed)
 |10=>(aS none 1 ai x.state.badBus)
 |11=>(aS none 3 Transfer.cell x.transfers)
 |12=>(aS none 6 eP.cell x.jobs)
 |13=>(.int .i64 x.people)
 |14=>(.bool x.redundant)
 |_=> .nilp
structure xH where
 plant:aD
 state:State
 transfers:(List Transfer)
 jobs:(List eP)
 people:Int
 redundant:Bool
instance:Inhabited xH:=⟨⟨default,default,default,default,default,default⟩⟩
def xH.cell (x:xH):Nat→DV
 |0=>(.int .i64 x.plant.buses)
 |1=>(aS none 5 Source.cell x.plant.sources)
 |2=>(aS none 6 Link.cell x.plant.links)
 |3=>(aS none 4 aN.cell x.plant.racks)
 |4=>(aS none 1 ai x.state.closed)
 |5=>(aS none 1 ai x.state.locked)
 |6=>(aS none 1 ai x.state.badLink)
 |7=>(aS none 1 ai x.state.on_)
 |8=>(aS none 1 ai x.state.badSource)
 |9=>(aS none 1 ai x.state.earthed)
 |10=>(aS none 1 ai x.state.badBus)
 |11=>(aS none 3 Transfer.cell x.transfers)
 |12=>(aS none 6 eP.cell x.jobs)
 |13=>(.int .i64 x.people)
 |14=>(.bool x.redundant)
 |_=> .nilp
structure nC where
 e0:Int
 e1:Int
 e2:Int
 e3:Int
 e4:Int
instance:Inhabited nC:=⟨⟨default,default,default,default,default⟩⟩
def nC.cell (x:nC):Nat→DV
 |0=>(.int .u8 x.e0)
 |1=>(.int .u8 x.e1)
 |2=>(.int .u8 x.e2)
 |3=>(.int .u8 x.e3)
 |4=>(.int .u8 x.e4)
 |_=> .nilp
structure bG where
 e0:Bool
 e1:Bool
instance:Inhabited bG:=⟨⟨default,default⟩⟩
def bG.cell (x:bG):Nat→DV
 |0=>(.bool x.e0)
 |1=>(.bool x.e1)
 |_=> .nilp
def aJ.ev (x:aJ):Nat→EV
 |0=> .row 3 1 x.buses.length (aA (aF .i64) x.buses)
 |1=> .row 3 1 x.sources.length (aA (aF .i64) x.sources)
 |_=> .d .nilp
def aO (n:Int) (first:Int) (last:Int):Option Bool:=
 some (bif (decide (first≤n))then(decide (n≤last))else false)
def sQ (p:aD):Option (Int × (List Source) × (List Link) × (List aN)):=
 some (p.buses,p.sources,p.links,p.racks)
def xg (p:aD):Option (Int × (List Source) × (List Link) × (List aN)):=
 some (p.buses,p.sources,p.links,p.racks)
def wT (p:aD):Option (Int × (List Source) × (List Link) × (List aN)):=
 some (p.buses,p.sources,p.links,p.racks)
def mF (x:Source) (x1:Int) (x11:(List Source)) (x12:(List Link)) (x13:(List aN)):Option Bool:=
 (aO x.bus 0 (IntKind.wrap .i64 (x1 - 1))).bind fun r_=>
 (bif gB [(r_,true)]then aO x.kind 1 3 else some default).bind fun r_1=>
 (bif gB [((bif r_ then r_1 else false),true)]then aO x.power 1 100000 else some default).bind fun r_2=>
 (bif gB [((bif (bif r_ then r_1 else false)then r_2 else false),true)]then aO x.sync 0 8 else some default).bind fun r_3=>
 (bif gB [((bif (bif (bif r_ then r_1 else false)then r_2 else false)then r_3 else false),true)]then aO x.ohm 10 100000 else some default).bind fun r_4=>
 some (bif (bif (bif (bif r_ then r_1 else false)then r_2 else false)then r_3 else false)then r_4 else false)
def sK (x:Source) (x1:Int) (x11:(List Source)) (x12:(List Link)) (x13:(List aN)):Option Bool:=
 (mF x x1 x11 x12 x13).bind fun r_=>
 some (!r_)
def kX (s_:(List Source)) (f_:Int) (f_1:(List Source)) (f_2:(List Link)) (f_3:(List aN)):Int→Option (aT Int (Ex Unit Int)):=
 fun t8=>
 bif (decide (t8<(s_.length:Int)))then
 (sK (at' s_ t8.toNat) f_ f_1 f_2 f_3).bind fun r_=>
 bU ((0:Int)≤t8∧t8<(s_.length:Int)) (
 bif r_ then
 some (.done (.ret t8))
 else
 some (.next (IntKind.wrap .i64 (t8+1))))
 else
 some (.done (.brk ()))
def nI (s_:(List Source)) (f_:Int) (f_1:(List Source)) (f_2:(List Link)) (f_3:(List aN)):Option Int:=
 Option.bind (aC (kX s_ f_ f_1 f_2 f_3) FUEL (0)) fun o=>match o with
 | .ret v=>some v
 | .brk _=>
 some (-1)
def iM (s_:(List Source)) (f_:Int) (f_1:(List Source)) (f_2:(List Link)) (f_3:(List aN)):Option Bool:=
 (nI s_ f_ f_1 f_2 f_3).bind fun r_=>
 some (decide (0≤r_))
def qR (l:(List Source)) (most:Int) (right:Int) (right1:(List Source)) (right2:(List Link)) (right3:(List aN)):Option Bool:=
 (bif gB [((decide ((l.length:Int)≤most)),true)]then iM l right right1 right2 right3 else some default).bind fun r_=>
 some (bif (decide ((l.length:Int)≤most))then(!r_)else false)
def lD (x:Link):Int→Option (aT Int (Ex Unit Bool)):=
 fun t50=>
 bif (decide (t50<(x.trip.length:Int)))then
 bU ((0:Int)≤t50∧t50<(x.trip.length:Int)) (
 (aO ((at' x.trip t50.toNat).amps) 1 1000000).bind fun r_5=>
 (bif gB [((!r_5),false)]then aO ((at' x.trip t50.toNat).millis) 1 100000 else some default).bind fun r_6=>
 bU ((gB [((decide (0<t50)),true),((bif (!r_5)then true else(!r_6)),false)]=true→(0:Int)≤(IntKind.wrap .i64 (t50 - 1))∧(IntKind.wrap .i64 (t50 - 1))<(x.trip.length:Int))∧(gB [((decide (((at' x.trip t50.toNat).amps)≤((at' x.trip ((IntKind.wrap .i64 (t50 - 1)).toNat)).amps))),false),((decide (0<t50)),true),((bif (!r_5)then true else(!r_6)),false)]=true→(0:Int)≤(IntKind.wrap .i64 (t50 - 1))∧(IntKind.wrap .i64 (t50 - 1))<(x.trip.length:Int))) (
 bif (bif (bif (!r_5)then true else(!r_6))then true else(bif (decide (0<t50))then(bif (decide (((at' x.trip t50.toNat).amps)≤((at' x.trip ((IntKind.wrap .i64 (t50 - 1)).toNat)).amps)))then true else(decide (((at' x.trip ((IntKind.wrap .i64 (t50 - 1)).toNat)).millis)≤((at' x.trip t50.toNat).millis))))else false))then
 some (.done (.ret false))
 else
 some (.next (IntKind.wrap .i64 (t50+1)))))
 else
 some (.done (.brk ()))
def oO (x:Link) (x1:Int) (x11:(List Source)) (x12:(List Link)) (x13:(List aN)):Option Bool:=
 (aO x.a 0 (IntKind.wrap .i64 (x1 - 1))).bind fun r_=>
 (bif gB [((!r_),false)]then aO x.b 0 (IntKind.wrap .i64 (x1 - 1))else some default).bind fun r_1=>
 (bif gB [((bif (bif (!r_)then true else(!r_1))then true else(decide (x.a=x.b))),false)]then aO x.kind 1 3 else some default).bind fun r_2=>
 (bif gB [((bif (bif (bif (!r_)then true else(!r_1))then true else(decide (x.a=x.b)))then true else(!r_2)),false)]then aO x.most 1 100000 else some default).bind fun r_3=>
 (bif gB [((bif (bif (bif (bif (!r_)then true else(!r_1))then true else(decide (x.a=x.b)))then true else(!r_2))then true else(!r_3)),false)]then aO x.ohm 10 100000 else some default).bind fun r_4=>
 bif (bif (bif (bif (bif (bif (!r_)then true else(!r_1))then true else(decide (x.a=x.b)))then true else(!r_2))then true else(!r_3))then true else(!r_4))then
 some false
 else
 Option.bind (aC (lD x) FUEL (0)) fun o=>match o with
 | .ret v=>some v
 | .brk _=>
 some (bif (decide ((x.trip.length:Int)≤6))then(bif (decide ((x.trip.length:Int)=0))then true else(decide (x.kind=3)))else false)
def oI (x:Link) (x1:Int) (x11:(List Source)) (x12:(List Link)) (x13:(List aN)):Option Bool:=
 (oO x x1 x11 x12 x13).bind fun r_=>
 some (!r_)
def jr (s_:(List Link)) (f_:Int) (f_1:(List Source)) (f_2:(List Link)) (f_3:(List aN)):Int→Option (aT Int (Ex Unit Int)):=
 fun t8=>
 bif (decide (t8<(s_.length:Int)))then
 (oI (at' s_ t8.toNat) f_ f_1 f_2 f_3).bind fun r_=>
 bU ((0:Int)≤t8∧t8<(s_.length:Int)) (
 bif r_ then
 some (.done (.ret t8))
 else
 some (.next (IntKind.wrap .i64 (t8+1))))
 else
 some (.done (.brk ()))
def kW (s_:(List Link)) (f_:Int) (f_1:(List Source)) (f_2:(List Link)) (f_3:(List aN)):Option Int:=
 Option.bind (aC (jr s_ f_ f_1 f_2 f_3) FUEL (0)) fun o=>match o with
 | .ret v=>some v
 | .brk _=>
 some (-1)
def fK (s_:(List Link)) (f_:Int) (f_1:(List Source)) (f_2:(List Link)) (f_3:(List aN)):Option Bool:=
 (kW s_ f_ f_1 f_2 f_3).bind fun r_=>
 some (decide (0≤r_))
def oG (l:(List Link)) (most:Int) (right:Int) (right1:(List Source)) (right2:(List Link)) (right3:(List aN)):Option Bool:=
 (bif gB [((decide ((l.length:Int)≤most)),true)]then fK l right right1 right2 right3 else some default).bind fun r_=>
 some (bif (decide ((l.length:Int)≤most))then(!r_)else false)
def qc (x:aN):Option Int:=
 bif (decide (x.feeds.e1=(-1)))then
 some 1
 else
 some 2
def oP (x:aN) (x1:Int) (x11:(List Source)) (x12:(List Link)) (x13:(List aN)):Option Bool:=
 (aO x.feeds.e0 0 (IntKind.wrap .i64 (x1 - 1))).bind fun r_=>
 (bif gB [(r_,true)]then aO x.feeds.e1 (-1) (IntKind.wrap .i64 (x1 - 1))else some default).bind fun r_1=>
 (bif gB [((bif (bif r_ then r_1 else false)then(!decide (x.feeds.e0=x.feeds.e1))else false),true)]then aO x.power 1 100000 else some default).bind fun r_2=>
 (bif gB [((bif (bif (bif r_ then r_1 else false)then(!decide (x.feeds.e0=x.feeds.e1))else false)then r_2 else false),true)]then qc x else some default).bind fun r_3=>
 (bif gB [((bif (bif (bif r_ then r_1 else false)then(!decide (x.feeds.e0=x.feeds.e1))else false)then r_2 else false),true)]then aO x.paths 0 r_3 else some default).bind fun r_4=>
 some (bif (bif (bif (bif r_ then r_1 else false)then(!decide (x.feeds.e0=x.feeds.e1))else false)then r_2 else false)then r_4 else false)
def ow (x:aN) (x1:Int) (x11:(List Source)) (x12:(List Link)) (x13:(List aN)):Option Bool:=
 (oP x x1 x11 x12 x13).bind fun r_=>
 some (!r_)
def jy (s_:(List aN)) (f_:Int) (f_1:(List Source)) (f_2:(List Link)) (f_3:(List aN)):Int→Option (aT Int (Ex Unit Int)):=
 fun t8=>
 bif (decide (t8<(s_.length:Int)))then
 (ow (⟨((at' s_ t8.toNat).feeds),(at' s_ t8.toNat).power,(at' s_ t8.toNat).paths⟩:aN) f_ f_1 f_2 f_3).bind fun r_=>
 bU ((0:Int)≤t8∧t8<(s_.length:Int)) (
 bif r_ then
 some (.done (.ret t8))
 else
 some (.next (IntKind.wrap .i64 (t8+1))))
 else
 some (.done (.brk ()))
def kY (s_:(List aN)) (f_:Int) (f_1:(List Source)) (f_2:(List Link)) (f_3:(List aN)):Option Int:=
 Option.bind (aC (jy s_ f_ f_1 f_2 f_3) FUEL (0)) fun o=>match o with
 | .ret v=>some v
 | .brk _=>
 some (-1)
def fJ (s_:(List aN)) (f_:Int) (f_1:(List Source)) (f_2:(List Link)) (f_3:(List aN)):Option Bool:=
 (kY s_ f_ f_1 f_2 f_3).bind fun r_=>
 some (decide (0≤r_))
def oC (l:(List aN)) (most:Int) (right:Int) (right1:(List Source)) (right2:(List Link)) (right3:(List aN)):Option Bool:=
 (bif gB [((decide ((l.length:Int)≤most)),true)]then fJ l right right1 right2 right3 else some default).bind fun r_=>
 some (bif (decide ((l.length:Int)≤most))then(!r_)else false)
def mP (p:aD):Option Int:=
 (aO p.buses 1 24).bind fun r_=>
 bif (!r_)then
 some 10
 else
 (sQ p).bind fun r_1=>
 (qR p.sources 8 r_1.1 r_1.2.1 r_1.2.2.1 r_1.2.2.2).bind fun r_2=>
 bif (!r_2)then
 some 11
 else
 (xg p).bind fun r_3=>
 (oG p.links 40 r_3.1 r_3.2.1 r_3.2.2.1 r_3.2.2.2).bind fun r_4=>
 bif (!r_4)then
 some 12
 else
 (wT p).bind fun r_5=>
 (oC p.racks 24 r_5.1 r_5.2.1 r_5.2.2.1 r_5.2.2.2).bind fun r_6=>
 bif (!r_6)then
 some 13
 else
 some 0
def iN (p:aD) (s_:State):Int→Option (aT Int (Ex Unit Int)):=
 fun t55=>
 bif (decide (t55<([(⟨s_.closed,(p.links.length:Int)⟩:bT),(⟨s_.locked,(p.links.length:Int)⟩:bT),(⟨s_.badLink,(p.links.length:Int)⟩:bT),(⟨s_.on_,(p.sources.length:Int)⟩:bT),(⟨s_.badSource,(p.sources.length:Int)⟩:bT),(⟨s_.earthed,p.buses⟩:bT),(⟨s_.badBus,p.buses⟩:bT)].length:Int)))then
 bU ((0:Int)≤t55∧t55<([(⟨s_.closed,(p.links.length:Int)⟩:bT),(⟨s_.locked,(p.links.length:Int)⟩:bT),(⟨s_.badLink,(p.links.length:Int)⟩:bT),(⟨s_.on_,(p.sources.length:Int)⟩:bT),(⟨s_.badSource,(p.sources.length:Int)⟩:bT),(⟨s_.earthed,p.buses⟩:bT),(⟨s_.badBus,p.buses⟩:bT)].length:Int)) (
 bif (!decide ((((at' [(⟨s_.closed,(p.links.length:Int)⟩:bT),(⟨s_.locked,(p.links.length:Int)⟩:bT),(⟨s_.badLink,(p.links.length:Int)⟩:bT),(⟨s_.on_,(p.sources.length:Int)⟩:bT),(⟨s_.badSource,(p.sources.length:Int)⟩:bT),(⟨s_.earthed,p.buses⟩:bT),(⟨s_.badBus,p.buses⟩:bT)] t55.toNat).l).length:Int)=((at' [(⟨s_.closed,(p.links.length:Int)⟩:bT),(⟨s_.locked,(p.links.length:Int)⟩:bT),(⟨s_.badLink,(p.links.length:Int)⟩:bT),(⟨s_.on_,(p.sources.length:Int)⟩:bT),(⟨s_.badSource,(p.sources.length:Int)⟩:bT),(⟨s_.earthed,p.buses⟩:bT),(⟨s_.badBus,p.buses⟩:bT)] t55.toNat).n)))then
 some (.done (.ret 9))
 else
 some (.next (IntKind.wrap .i64 (t55+1))))
 else
 some (.done (.brk ()))
def iK (p:aD) (s_:State):Int→Option (aT Int (Ex Unit Int)):=
 fun t69=>
 bif (decide (t69<(p.links.length:Int)))then
 bU ((0:Int)≤t69∧t69<(p.links.length:Int)) (
 bU ((gB [((decide (((at' p.links t69.toNat).kind)=1)),true)]=true→(0:Int)≤t69∧t69<(s_.closed.length:Int))∧(gB [((!(at' s_.closed t69.toNat)),false),((decide (((at' p.links t69.toNat).kind)=1)),true)]=true→(0:Int)≤t69∧t69<(s_.locked.length:Int))) (
 bif (bif (decide (((at' p.links t69.toNat).kind)=1))then(bif (!(at' s_.closed t69.toNat))then true else(at' s_.locked t69.toNat))else false)then
 some (.done (.ret 9))
 else
 some (.next (IntKind.wrap .i64 (t69+1)))))
 else
 some (.done (.brk ()))
def dX (p:aD) (s_:State):Option Int:=
 (mP p).bind fun r_=>
 bif (!decide (r_=0))then
 some r_
 else
 Option.bind (aC (iN p s_) FUEL (0)) fun o=>match o with
 | .ret v=>some v
 | .brk _=>
 Option.bind (aC (iK p s_) FUEL (0)) fun o=>match o with
 | .ret v=>some v
 | .brk _=>
 some 0
def d9 (i:Int) (x1:Int) (x11:(List Source)) (x12:(List Link)) (x13:(List aN)):Option Bool:=
 bU (gB [((bif (decide (0≤i))then(decide (i<(x12.length:Int)))else false),true)]=true→(0:Int)≤i∧i<(x12.length:Int)) (
 some (bif (bif (decide (0≤i))then(decide (i<(x12.length:Int)))else false)then(!decide (((at' x12 i.toNat).kind)=1))else false))
def gu (x:Transfer) (x1:Int) (x11:(List Source)) (x12:(List Link)) (x13:(List aN)) (x2:Int) (x21:(List Source)) (x22:(List Link)) (x23:(List aN)):Option Bool:=
 (bif gB [((bif (decide (x.watch<0))then true else(decide (x1≤x.watch))),false)]then d9 x.close x2 x21 x22 x23 else some default).bind fun r_=>
 (bif gB [((!decide (x.open_=(-1))),true),((bif (bif (decide (x.watch<0))then true else(decide (x1≤x.watch)))then true else(!r_)),false)]then d9 x.open_ x2 x21 x22 x23 else some default).bind fun r_1=>
 some (bif (bif (bif (decide (x.watch<0))then true else(decide (x1≤x.watch)))then true else(!r_))then true else(bif (!decide (x.open_=(-1)))then(bif (!r_1)then true else(decide (x.open_=x.close)))else false))
def jv (s_:(List Transfer)) (f_:Int) (f_1:(List Source)) (f_2:(List Link)) (f_3:(List aN)) (f_4:Int) (f_5:(List Source)) (f_6:(List Link)) (f_7:(List aN)):Int→Option (aT Int (Ex Unit Int)):=
 fun t8=>
 bif (decide (t8<(s_.length:Int)))then
 (gu (at' s_ t8.toNat) f_ f_1 f_2 f_3 f_4 f_5 f_6 f_7).bind fun r_=>
 bU ((0:Int)≤t8∧t8<(s_.length:Int)) (
 bif r_ then
 some (.done (.ret t8))
 else
 some (.next (IntKind.wrap .i64 (t8+1))))
 else
 some (.done (.brk ()))
def lg (s_:(List Transfer)) (f_:Int) (f_1:(List Source)) (f_2:(List Link)) (f_3:(List aN)) (f_4:Int) (f_5:(List Source)) (f_6:(List Link)) (f_7:(List aN)):Option Int:=
 Option.bind (aC (jv s_ f_ f_1 f_2 f_3 f_4 f_5 f_6 f_7) FUEL (0)) fun o=>match o with
 | .ret v=>some v
 | .brk _=>
 some (-1)
def fZ (s_:(List Transfer)) (f_:Int) (f_1:(List Source)) (f_2:(List Link)) (f_3:(List aN)) (f_4:Int) (f_5:(List Source)) (f_6:(List Link)) (f_7:(List aN)):Option Bool:=
 (lg s_ f_ f_1 f_2 f_3 f_4 f_5 f_6 f_7).bind fun r_=>
 some (decide (0≤r_))
def fB (p:aD) (s_:State) (l:(List Transfer)):Option Int:=
 (dX p s_).bind fun r_=>
 bif (!decide (r_=0))then
 some r_
 else
 (bif gB [((decide (16<(l.length:Int))),false)]then fZ l p.buses p.sources p.links p.racks p.buses p.sources p.links p.racks else some default).bind fun r_1=>
 bif (bif (decide (16<(l.length:Int)))then true else r_1)then
 some 1
 else
 some 0
def sW (s_:(List Bool)) (s_nn:Bool):Option (List Bool):=
 bif (!s_nn)then
 some ([]:List Bool)
 else
 bU (((([]:List Bool).length+s_.length)*1≤140737488355328)∧(([]:List Bool).length+s_.length≤4611686018427387904)) (
 some (([]:List Bool)++s_))
def aR (s:(List Bool)):Option (List Bool):=sW s true
def oV (s_:State):Option State:=
 bU ((0:Int)≤0∧0<(7:Int)) (
 (aR s_.closed).bind fun r_=>
 bU ((0:Int)≤1∧1<(7:Int)) (
 (aR s_.locked).bind fun r_1=>
 bU ((0:Int)≤2∧2<(7:Int)) (
 (aR s_.badLink).bind fun r_2=>
 bU ((0:Int)≤3∧3<(7:Int)) (
 (aR s_.on_).bind fun r_3=>
 bU ((0:Int)≤4∧4<(7:Int)) (
 (aR s_.badSource).bind fun r_4=>
 bU ((0:Int)≤5∧5<(7:Int)) (
 (aR s_.earthed).bind fun r_5=>
 bU ((0:Int)≤6∧6<(7:Int)) (
 (aR s_.badBus).bind fun r_6=>
 some (⟨r_,r_1,r_2,r_3,r_4,r_5,r_6⟩:State))))))))
def oH (p:aD) (s_:State) (l:(List Transfer)):Option ((List Transfer) × Int × (List Source) × (List Link) × (List aN) × State):=
 some (l,p.buses,p.sources,p.links,p.racks,s_)
def jZ (p:aD) (s_:State):Option (Int × (List Source) × (List Link) × (List aN) × (List Bool) × (List Bool) × (List Bool) × (List Bool) × (List Bool) × (List Bool) × (List Bool)):=
 some (p.buses,p.sources,p.links,p.racks,s_.closed,s_.locked,s_.badLink,s_.on_,s_.badSource,s_.earthed,s_.badBus)
def dZ (g:aU):Int→Option (aT Int (Ex Unit Int)):=
 fun x1=>
 bif (!((aV bP x1 g.head).isSome))then
 some (.done (.ret x1))
 else
 some (.next ((aV bP x1 g.head).getD 0))
def bV (g:aU) (x:Int):Option Int:=
 Option.bind (aC (dZ g) FUEL (x)) fun o=>match o with
 | .ret v=>some v
 | .brk _=>none
def jH (g:aU) (a:Int) (b:Int):Option (List (Int × Int)):=
 (bV g a).bind fun r_=>
 (bV g b).bind fun r_1=>
 bif (!decide (r_=r_1))then
 some (eD bP r_ r_1 g.head)
 else
 some g.head
def lN (x22:Int) (x221:Int) (x222:Int) (x223:Int) (x224:Int) (x225:(List nJ)) (o_:aU):Option aU:=
 (jH o_ x22 x221).bind fun r_=>
 some (⟨r_⟩:aU)
def dw (x12:(List Link)) (x2:(List Bool)) (x22:(List Bool)) (x26:(List Bool)):((List (Int × Int)) × Int)→Option (aT ((List (Int × Int)) × Int) (Ex (List (Int × Int)) aU)):=
 fun zz=>match zz with
 |(o0,t9)=>
 bif (decide (t9<(x12.length:Int)))then
 bU ((0:Int)≤t9∧t9<(x12.length:Int)) (
 bif (bif (bif (bif (at' x2 t9.toNat)then(!(at' x22 t9.toNat))else false)then(!(at' x26 (((at' x12 t9.toNat).a).toNat)))else false)then(!(at' x26 (((at' x12 t9.toNat).b).toNat)))else false)then
 (lN ((at' x12 t9.toNat).a) ((at' x12 t9.toNat).b) ((at' x12 t9.toNat).kind) ((at' x12 t9.toNat).most) ((at' x12 t9.toNat).ohm) ((at' x12 t9.toNat).trip) (⟨o0⟩:aU)).bind fun r_=>
 bU (((0:Int)≤t9∧t9<(x2.length:Int))∧(gB [((at' x2 t9.toNat),true)]=true→(0:Int)≤t9∧t9<(x22.length:Int))∧(gB [((bif (at' x2 t9.toNat)then(!(at' x22 t9.toNat))else false),true)]=true→(0:Int)≤(at' x12 t9.toNat).a∧(at' x12 t9.toNat).a<(x26.length:Int))∧(gB [((bif (bif (at' x2 t9.toNat)then(!(at' x22 t9.toNat))else false)then(!(at' x26 (((at' x12 t9.toNat).a).toNat)))else false),true)]=true→(0:Int)≤(at' x12 t9.toNat).b∧(at' x12 t9.toNat).b<(x26.length:Int))) (
 some (.next (r_.head,(IntKind.wrap .i64 (t9+1)))))
 else
 bU (((0:Int)≤t9∧t9<(x2.length:Int))∧(gB [((at' x2 t9.toNat),true)]=true→(0:Int)≤t9∧t9<(x22.length:Int))∧(gB [((bif (at' x2 t9.toNat)then(!(at' x22 t9.toNat))else false),true)]=true→(0:Int)≤(at' x12 t9.toNat).a∧(at' x12 t9.toNat).a<(x26.length:Int))∧(gB [((bif (bif (at' x2 t9.toNat)then(!(at' x22 t9.toNat))else false)then(!(at' x26 (((at' x12 t9.toNat).a).toNat)))else false),true)]=true→(0:Int)≤(at' x12 t9.toNat).b∧(at' x12 t9.toNat).b<(x26.length:Int))) (
 some (.next (o0,(IntKind.wrap .i64 (t9+1))))))
 else
 some (.done (.brk o0))
def lY (x1:Int) (x11:(List Source)) (x12:(List Link)) (x13:(List aN)) (x2:(List Bool)) (x21:(List Bool)) (x22:(List Bool)) (x23:(List Bool)) (x24:(List Bool)) (x25:(List Bool)) (x26:(List Bool)) (o_:aU):Option aU:=
 Option.bind (aC (dw x12 x2 x22 x26) FUEL (o_.head,0)) fun o=>match o with
 | .ret v=>some v
 | .brk o01=>
 some (⟨o01⟩:aU)
def bH (p:aD) (s_:State) (r_1:aU):((List aJ) × (List (Int × Int)) × Int)→Option (aT ((List aJ) × (List (Int × Int)) × Int) (Ex ((List aJ) × (List (Int × Int))) (List aJ))):=
 fun zz=>match zz with
 |(out,at_,t32)=>
 bif (decide (t32<p.buses))then
 bU ((0:Int)≤t32∧t32<(s_.badBus.length:Int)) (
 bif (at' s_.badBus t32.toNat)then
 some (.next (out,at_,(IntKind.wrap .i64 (t32+1))))
 else
 (bV r_1 t32).bind fun r_2=>
 bif (!((aV bP r_2 at_).isSome))then
 bU (((out.length+[(⟨([]:List Int),([]:List Int)⟩:aJ)].length)*48≤140737488355328)∧(out.length+[(⟨([]:List Int),([]:List Int)⟩:aJ)].length≤4611686018427387904)) (
 bU (((0:Int)≤((aV bP r_2 (eD bP r_2 (out.length:Int) at_)).getD 0)∧((aV bP r_2 (eD bP r_2 (out.length:Int) at_)).getD 0)<((out++[(⟨([]:List Int),([]:List Int)⟩:aJ)]).length:Int))∧((((at' (out++[(⟨([]:List Int),([]:List Int)⟩:aJ)]) (((aV bP r_2 (eD bP r_2 (out.length:Int) at_)).getD 0).toNat)).buses).length+[t32].length)*8≤140737488355328)∧(((at' (out++[(⟨([]:List Int),([]:List Int)⟩:aJ)]) (((aV bP r_2 (eD bP r_2 (out.length:Int) at_)).getD 0).toNat)).buses).length+[t32].length≤4611686018427387904)) (
 some (.next (((out++[(⟨([]:List Int),([]:List Int)⟩:aJ)]).set (((aV bP r_2 (eD bP r_2 (out.length:Int) at_)).getD 0).toNat) (⟨(((at' (out++[(⟨([]:List Int),([]:List Int)⟩:aJ)]) (((aV bP r_2 (eD bP r_2 (out.length:Int) at_)).getD 0).toNat)).buses)++[t32]),(at' (out++[(⟨([]:List Int),([]:List Int)⟩:aJ)]) (((aV bP r_2 (eD bP r_2 (out.length:Int) at_)).getD 0).toNat)).sources⟩:aJ)),(eD bP r_2 (out.length:Int) at_),(IntKind.wrap .i64 (t32+1))))))
 else
 bU (((0:Int)≤((aV bP r_2 at_).getD 0)∧((aV bP r_2 at_).getD 0)<(out.length:Int))∧((((at' out (((aV bP r_2 at_).getD 0).toNat)).buses).length+[t32].length)*8≤140737488355328)∧(((at' out (((aV bP r_2 at_).getD 0).toNat)).buses).length+[t32].length≤4611686018427387904)) (
 some (.next ((out.set (((aV bP r_2 at_).getD 0).toNat) (⟨(((at' out (((aV bP r_2 at_).getD 0).toNat)).buses)++[t32]),(at' out (((aV bP r_2 at_).getD 0).toNat)).sources⟩:aJ)),at_,(IntKind.wrap .i64 (t32+1))))))
 else
 some (.done (.brk (out,at_)))
def bI (p:aD) (s_:State) (r_1:aU) (at_1:(List (Int × Int))):((List aJ) × Int)→Option (aT ((List aJ) × Int) (Ex (List aJ) (List aJ))):=
 fun zz=>match zz with
 |(out2,t78)=>
 bif (decide (t78<(p.sources.length:Int)))then
 bU ((0:Int)≤t78∧t78<(p.sources.length:Int)) (
 bU (((0:Int)≤t78∧t78<(s_.on_.length:Int))∧(gB [((at' s_.on_ t78.toNat),true)]=true→(0:Int)≤t78∧t78<(s_.badSource.length:Int))∧(gB [((bif (at' s_.on_ t78.toNat)then(!(at' s_.badSource t78.toNat))else false),true)]=true→(0:Int)≤(at' p.sources t78.toNat).bus∧(at' p.sources t78.toNat).bus<(s_.badBus.length:Int))) (
 bif (bif (bif (at' s_.on_ t78.toNat)then(!(at' s_.badSource t78.toNat))else false)then(!(at' s_.badBus (((at' p.sources t78.toNat).bus).toNat)))else false)then
 (bV r_1 ((at' p.sources t78.toNat).bus)).bind fun r_3=>
 bU (((0:Int)≤((aV bP r_3 at_1).getD 0)∧((aV bP r_3 at_1).getD 0)<(out2.length:Int))∧((((at' out2 (((aV bP r_3 at_1).getD 0).toNat)).sources).length+[t78].length)*8≤140737488355328)∧(((at' out2 (((aV bP r_3 at_1).getD 0).toNat)).sources).length+[t78].length≤4611686018427387904)) (
 some (.next ((out2.set (((aV bP r_3 at_1).getD 0).toNat) (⟨(at' out2 (((aV bP r_3 at_1).getD 0).toNat)).buses,(((at' out2 (((aV bP r_3 at_1).getD 0).toNat)).sources)++[t78])⟩:aJ)),(IntKind.wrap .i64 (t78+1)))))
 else
 some (.next (out2,(IntKind.wrap .i64 (t78+1))))))
 else
 some (.done (.brk out2))
def gF (p:aD) (s_:State):Option (List aJ):=
 (jZ p s_).bind fun r_=>
 (lY r_.1 r_.2.1 r_.2.2.1 r_.2.2.2.1 r_.2.2.2.2.1 r_.2.2.2.2.2.1 r_.2.2.2.2.2.2.1 r_.2.2.2.2.2.2.2.1 r_.2.2.2.2.2.2.2.2.1 r_.2.2.2.2.2.2.2.2.2.1 r_.2.2.2.2.2.2.2.2.2.2 (⟨([]:(List (Int × Int)))⟩:aU)).bind fun r_1=>
 Option.bind (aC (bH p s_ r_1) FUEL (([]:List aJ),([]:(List (Int × Int))),0)) fun o=>match o with
 | .ret v=>some v
 | .brk (out1,at_1)=>
 Option.bind (aC (bI p s_ r_1 at_1) FUEL (out1,0)) fun o=>match o with
 | .ret v=>some v
 | .brk out3=>
 some out3
def kI (r_1:(List aJ)) (t25:Int):((List Bool) × Int)→Option (aT ((List Bool) × Int) (Ex (List Bool) (aT ((List Bool) × Int) (Ex (List Bool) ((List Bool) × Int))))):=
 fun zz=>match zz with
 |(out2,t32)=>
 bif (decide (t32<(((at' r_1 t25.toNat).buses).length:Int)))then
 bU ((0:Int)≤t32∧t32<(((at' r_1 t25.toNat).buses).length:Int)) (
 bU ((0:Int)≤(at' ((at' r_1 t25.toNat).buses) t32.toNat)∧(at' ((at' r_1 t25.toNat).buses) t32.toNat)<(out2.length:Int)) (
 some (.next ((out2.set ((at' ((at' r_1 t25.toNat).buses) t32.toNat).toNat) (decide (0<(((at' r_1 t25.toNat).sources).length:Int)))),(IntKind.wrap .i64 (t32+1))))))
 else
 some (.done (.brk out2))
def kL (r_1:(List aJ)):((List Bool) × Int)→Option (aT ((List Bool) × Int) (Ex (List Bool) ((List Bool) × Int))):=
 fun zz=>match zz with
 |(out,t25)=>
 bif (decide (t25<(r_1.length:Int)))then
 bU ((0:Int)≤t25∧t25<(r_1.length:Int)) (
 Option.bind (aC (kI r_1 t25) FUEL (out,0)) fun o=>match o with
 | .ret v=>some v
 | .brk out3=>
 some (.next (out3,(IntKind.wrap .i64 (t25+1)))))
 else
 some (.done (.brk out))
def dP (p:aD) (s_:State):Option ((List Bool) × Int):=
 (dX p s_).bind fun r_=>
 bif (!decide (r_=0))then
 some (([]:List Bool),r_)
 else
 bU (((0:Int)≤p.buses)∧((1:Int)*p.buses≤281474976710656)∧((p.buses:Int)≤9223372036854775807)) (
 (gF p s_).bind fun r_1=>
 Option.bind (aC (kL r_1) FUEL ((List.replicate p.buses.toNat (false:Bool)),0)) fun o=>match o with
 | .ret v=>some v
 | .brk out1=>
 some (out1,0))
def bK (x y:ay):Int:=if x.e0<y.e0 then -1 else if y.e0<x.e0 then 1 else if x.e1<y.e1 then -1 else if y.e1<x.e1 then 1 else 0
def jm (s:(List ay)):Option (List ay):=match s with
 |[]=>some []
 |x::xs=>bif decide ((x::xs).length<4611686018427387904)then some ((x::xs).mergeSort fun x y=> !decide (bK y x<0))else none
def kG (p:aD) (r_1:(List aJ)) (t24:Int) (t31:Int):((List ay) × Int)→Option (aT ((List ay) × Int) (Ex (List ay) (aT ((List ay) × Int) (Ex (List ay) (aT ((List ay) × Int) (Ex (List ay) ((List ay) × Int))))))):=
 fun zz=>match zz with
 |(out4,t42)=>
 bif (decide (t42<(((((at' r_1 t24.toNat).sources).length - ((IntKind.wrap .i64 (t31+1)).toNat)):Nat):Int)))then
 bU ((0:Int)≤t42∧t42<((((at' r_1 t24.toNat).sources).drop ((IntKind.wrap .i64 (t31+1)).toNat)).length:Int)) (
 bU (((0:Int)≤(at' ((at' r_1 t24.toNat).sources) t31.toNat)∧(at' ((at' r_1 t24.toNat).sources) t31.toNat)<(p.sources.length:Int))∧(gB [((decide (((at' p.sources ((at' ((at' r_1 t24.toNat).sources) t31.toNat).toNat)).sync)=0)),false)]=true→(0:Int)≤(at' ((at' r_1 t24.toNat).sources) t31.toNat)∧(at' ((at' r_1 t24.toNat).sources) t31.toNat)<(p.sources.length:Int))∧(gB [((decide (((at' p.sources ((at' ((at' r_1 t24.toNat).sources) t31.toNat).toNat)).sync)=0)),false)]=true→(0:Int)≤(at' (((at' r_1 t24.toNat).sources).drop ((IntKind.wrap .i64 (t31+1)).toNat)) t42.toNat)∧(at' (((at' r_1 t24.toNat).sources).drop ((IntKind.wrap .i64 (t31+1)).toNat)) t42.toNat)<(p.sources.length:Int))) (
 bif (bif (decide (((at' p.sources ((at' ((at' r_1 t24.toNat).sources) t31.toNat).toNat)).sync)=0))then true else(!decide (((at' p.sources ((at' ((at' r_1 t24.toNat).sources) t31.toNat).toNat)).sync)=((at' p.sources ((at' (((at' r_1 t24.toNat).sources).drop ((IntKind.wrap .i64 (t31+1)).toNat)) t42.toNat).toNat)).sync))))then
 bU (((out4.length+[(⟨(at' ((at' r_1 t24.toNat).sources) t31.toNat),(at' (((at' r_1 t24.toNat).sources).drop ((IntKind.wrap .i64 (t31+1)).toNat)) t42.toNat)⟩:ay)].length)*16≤140737488355328)∧(out4.length+[(⟨(at' ((at' r_1 t24.toNat).sources) t31.toNat),(at' (((at' r_1 t24.toNat).sources).drop ((IntKind.wrap .i64 (t31+1)).toNat)) t42.toNat)⟩:ay)].length≤4611686018427387904)) (
 some (.next ((out4++[(⟨(at' ((at' r_1 t24.toNat).sources) t31.toNat),(at' (((at' r_1 t24.toNat).sources).drop ((IntKind.wrap .i64 (t31+1)).toNat)) t42.toNat)⟩:ay)]),(IntKind.wrap .i64 (t42+1)))))
 else
 some (.next (out4,(IntKind.wrap .i64 (t42+1))))))
 else
 some (.done (.brk out4))
def j5 (p:aD) (r_1:(List aJ)) (t24:Int):((List ay) × Int)→Option (aT ((List ay) × Int) (Ex (List ay) (aT ((List ay) × Int) (Ex (List ay) ((List ay) × Int))))):=
 fun zz=>match zz with
 |(out2,t31)=>
 bif (decide (t31<(((at' r_1 t24.toNat).sources).length:Int)))then
 bU ((0:Int)≤t31∧t31<(((at' r_1 t24.toNat).sources).length:Int)) (
 bU ((0:Int)≤(IntKind.wrap .i64 (t31+1))∧(IntKind.wrap .i64 (t31+1))≤(((at' r_1 t24.toNat).sources).length:Int)) (
 Option.bind (aC (kG p r_1 t24 t31) FUEL (out2,0)) fun o=>match o with
 | .ret v=>some v
 | .brk out5=>
 some (.next (out5,(IntKind.wrap .i64 (t31+1))))))
 else
 some (.done (.brk out2))
def iD (p:aD) (r_1:(List aJ)):((List ay) × Int)→Option (aT ((List ay) × Int) (Ex (List ay) ((List ay) × Int))):=
 fun zz=>match zz with
 |(out,t24)=>
 bif (decide (t24<(r_1.length:Int)))then
 bU ((0:Int)≤t24∧t24<(r_1.length:Int)) (
 Option.bind (aC (j5 p r_1 t24) FUEL (out,0)) fun o=>match o with
 | .ret v=>some v
 | .brk out3=>
 some (.next (out3,(IntKind.wrap .i64 (t24+1)))))
 else
 some (.done (.brk out))
def dF (p:aD) (s_:State):Option ((List ay) × Int):=
 (dX p s_).bind fun r_=>
 bif (!decide (r_=0))then
 some (([]:List ay),r_)
 else
 (gF p s_).bind fun r_1=>
 Option.bind (aC (iD p r_1) FUEL (([]:List ay),0)) fun o=>match o with
 | .ret v=>some v
 | .brk out1=>
 (jm out1).bind fun r_2=>
 bU (out1.length=r_2.length) (
 some (r_2,0))
def oK (s_:(List ay)) (v_:ay):Int→Option (aT Int (Ex Unit Int)):=
 fun t8=>
 bif (decide (t8<(s_.length:Int)))then
 bU ((0:Int)≤t8∧t8<(s_.length:Int)) (
 bif ((decide (v_.e0=((at' s_ t8.toNat).e0))) && ((decide (v_.e1=((at' s_ t8.toNat).e1))) && true))then
 some (.done (.ret t8))
 else
 some (.next (IntKind.wrap .i64 (t8+1))))
 else
 some (.done (.brk ()))
def rP (s_:(List ay)) (v_:ay):Option Int:=
 Option.bind (aC (oK s_ v_) FUEL (0)) fun o=>match o with
 | .ret v=>some v
 | .brk _=>
 some (-1)
def lC (s_:(List ay)) (v_:ay):Option Bool:=
 (rP s_ v_).bind fun r_=>
 some (decide (0≤r_))
def qB (c:ay) (x1:(List ay)):Option Bool:=
 (lC x1 c).bind fun r_=>
 some (!r_)
def jw (s_:(List ay)) (f_:(List ay)):Int→Option (aT Int (Ex Unit Int)):=
 fun t8=>
 bif (decide (t8<(s_.length:Int)))then
 (qB (at' s_ t8.toNat) f_).bind fun r_=>
 bU ((0:Int)≤t8∧t8<(s_.length:Int)) (
 bif r_ then
 some (.done (.ret t8))
 else
 some (.next (IntKind.wrap .i64 (t8+1))))
 else
 some (.done (.brk ()))
def kT (s_:(List ay)) (f_:(List ay)):Option Int:=
 Option.bind (aC (jw s_ f_) FUEL (0)) fun o=>match o with
 | .ret v=>some v
 | .brk _=>
 some (-1)
def cK (s_:(List ay)) (f_:(List ay)):Option Bool:=
 (kT s_ f_).bind fun r_=>
 some (decide (0≤r_))
def iA (s_:State) (r_:((List Bool) × Int)) (r_2:((List Bool) × Int)):Int→Option (aT Int (Ex Unit (State × Bool))):=
 fun t103=>
 bif (decide (t103<(r_2.1.length:Int)))then
 bU (((0:Int)≤t103∧t103<(r_.1.length:Int))∧(gB [((at' r_.1 t103.toNat),true)]=true→(0:Int)≤t103∧t103<(r_2.1.length:Int))∧(gB [((bif (at' r_.1 t103.toNat)then(!(at' r_2.1 t103.toNat))else false),false)]=true→(0:Int)≤t103∧t103<(r_2.1.length:Int))∧(gB [((at' r_2.1 t103.toNat),true),((bif (at' r_.1 t103.toNat)then(!(at' r_2.1 t103.toNat))else false),false)]=true→(0:Int)≤t103∧t103<(s_.earthed.length:Int))∧(gB [((bif (at' r_2.1 t103.toNat)then(at' s_.earthed t103.toNat)else false),true),((bif (at' r_.1 t103.toNat)then(!(at' r_2.1 t103.toNat))else false),false)]=true→(0:Int)≤t103∧t103<(r_.1.length:Int))) (
 bif (bif (bif (at' r_.1 t103.toNat)then(!(at' r_2.1 t103.toNat))else false)then true else(bif (bif (at' r_2.1 t103.toNat)then(at' s_.earthed t103.toNat)else false)then(!(at' r_.1 t103.toNat))else false))then
 some (.done (.ret (s_,false)))
 else
 some (.next (IntKind.wrap .i64 (t103+1))))
 else
 some (.done (.brk ()))
def vJ (s_:State) (r_:((List Bool) × Int)) (r_6:((List Bool) × Int)):Int→Option (aT Int (Ex Unit (State × Bool))):=
 fun t1031=>
 bif (decide (t1031<(r_6.1.length:Int)))then
 bU (((0:Int)≤t1031∧t1031<(r_.1.length:Int))∧(gB [((at' r_.1 t1031.toNat),true)]=true→(0:Int)≤t1031∧t1031<(r_6.1.length:Int))∧(gB [((bif (at' r_.1 t1031.toNat)then(!(at' r_6.1 t1031.toNat))else false),false)]=true→(0:Int)≤t1031∧t1031<(r_6.1.length:Int))∧(gB [((at' r_6.1 t1031.toNat),true),((bif (at' r_.1 t1031.toNat)then(!(at' r_6.1 t1031.toNat))else false),false)]=true→(0:Int)≤t1031∧t1031<(s_.earthed.length:Int))∧(gB [((bif (at' r_6.1 t1031.toNat)then(at' s_.earthed t1031.toNat)else false),true),((bif (at' r_.1 t1031.toNat)then(!(at' r_6.1 t1031.toNat))else false),false)]=true→(0:Int)≤t1031∧t1031<(r_.1.length:Int))) (
 bif (bif (bif (at' r_.1 t1031.toNat)then(!(at' r_6.1 t1031.toNat))else false)then true else(bif (bif (at' r_6.1 t1031.toNat)then(at' s_.earthed t1031.toNat)else false)then(!(at' r_.1 t1031.toNat))else false))then
 some (.done (.ret (s_,false)))
 else
 some (.next (IntKind.wrap .i64 (t1031+1))))
 else
 some (.done (.brk ()))
def mR (p:aD) (s_:State) (x:Transfer):Option (State × Bool):=
 (dP p s_).bind fun r_=>
 bU (((0:Int)≤x.watch∧x.watch<(s_.badBus.length:Int))∧(gB [((at' s_.badBus x.watch.toNat),false)]=true→(0:Int)≤x.watch∧x.watch<(r_.1.length:Int))∧(gB [((bif (at' s_.badBus x.watch.toNat)then true else(at' r_.1 x.watch.toNat)),false)]=true→(0:Int)≤x.close∧x.close<(s_.closed.length:Int))∧(gB [((bif (bif (at' s_.badBus x.watch.toNat)then true else(at' r_.1 x.watch.toNat))then true else(at' s_.closed x.close.toNat)),false)]=true→(0:Int)≤x.close∧x.close<(s_.badLink.length:Int))∧(gB [((bif (bif (bif (at' s_.badBus x.watch.toNat)then true else(at' r_.1 x.watch.toNat))then true else(at' s_.closed x.close.toNat))then true else(at' s_.badLink x.close.toNat)),false)]=true→(0:Int)≤x.close∧x.close<(s_.locked.length:Int))) (
 bif (bif (bif (bif (bif (at' s_.badBus x.watch.toNat)then true else(at' r_.1 x.watch.toNat))then true else(at' s_.closed x.close.toNat))then true else(at' s_.badLink x.close.toNat))then true else(at' s_.locked x.close.toNat))then
 some (s_,false)
 else
 (aR s_.closed).bind fun r_1=>
 bU ((0:Int)≤x.close∧x.close<(r_1.length:Int)) (
 bif (decide (0≤x.open_))then
 bU (((0:Int)≤x.open_∧x.open_<(s_.badLink.length:Int))∧(gB [((at' s_.badLink x.open_.toNat),false)]=true→(0:Int)≤x.open_∧x.open_<(s_.locked.length:Int))) (
 bif (bif (at' s_.badLink x.open_.toNat)then true else(at' s_.locked x.open_.toNat))then
 some (s_,false)
 else
 bU ((0:Int)≤x.open_∧x.open_<((r_1.set x.close.toNat true).length:Int)) (
 (dP p (⟨((r_1.set x.close.toNat true).set x.open_.toNat false),s_.locked,s_.badLink,s_.on_,s_.badSource,s_.earthed,s_.badBus⟩:State)).bind fun r_2=>
 Option.bind (aC (iA s_ r_ r_2) FUEL (0)) fun o=>match o with
 | .ret v=>some v
 | .brk _=>
 (dF p s_).bind fun r_3=>
 (dF p (⟨((r_1.set x.close.toNat true).set x.open_.toNat false),s_.locked,s_.badLink,s_.on_,s_.badSource,s_.earthed,s_.badBus⟩:State)).bind fun r_4=>
 (bif gB [((!(at' r_2.1 x.watch.toNat)),false)]then cK r_4.1 r_3.1 else some default).bind fun r_5=>
 bU ((0:Int)≤x.watch∧x.watch<(r_2.1.length:Int)) (
 bif (bif (!(at' r_2.1 x.watch.toNat))then true else r_5)then
 some (s_,false)
 else
 some ((⟨((r_1.set x.close.toNat true).set x.open_.toNat false),s_.locked,s_.badLink,s_.on_,s_.badSource,s_.earthed,s_.badBus⟩:State),true))))
 else
 (dP p (⟨(r_1.set x.close.toNat true),s_.locked,s_.badLink,s_.on_,s_.badSource,s_.earthed,s_.badBus⟩:State)).bind fun r_6=>
 Option.bind (aC (vJ s_ r_ r_6) FUEL (0)) fun o=>match o with
 | .ret v=>some v
 | .brk _=>
 (dF p s_).bind fun r_7=>
 (dF p (⟨(r_1.set x.close.toNat true),s_.locked,s_.badLink,s_.on_,s_.badSource,s_.earthed,s_.badBus⟩:State)).bind fun r_8=>
 (bif gB [((!(at' r_6.1 x.watch.toNat)),false)]then cK r_8.1 r_7.1 else some default).bind fun r_9=>
 bU ((0:Int)≤x.watch∧x.watch<(r_6.1.length:Int)) (
 bif (bif (!(at' r_6.1 x.watch.toNat))then true else r_9)then
 some (s_,false)
 else
 some ((⟨(r_1.set x.close.toNat true),s_.locked,s_.badLink,s_.on_,s_.badSource,s_.earthed,s_.badBus⟩:State),true))))
def mI (x28:Int) (x29:(List Bool)) (x291:(List Bool)) (x292:(List Bool)) (x293:(List Bool)) (x294:(List Bool)) (x295:(List Bool)) (x296:(List Bool)) (state:State) (o_:(List Int)):Option (State × (List Int)):=
 bU (((o_.length+[x28].length)*8≤140737488355328)∧(o_.length+[x28].length≤4611686018427387904)) (
 some ((⟨x29,x291,x292,x293,x294,x295,x296⟩:State),(o_++[x28])))
def jI (x1:(List Transfer)) (x2:Int) (x21:(List Source)) (x22:(List Link)) (x23:(List aN)) (state:State) (o0:(List Bool)) (o01:(List Int)) (done:(List Bool)):Int→Option (aT Int (Ex Unit (aT ((List Bool) × (List Int) × (List Bool)) (Ex ((List Bool) × (List Int)) (State × State × (List Int)))))):=
 fun t15=>
 bif (decide (t15<(x1.length:Int)))then
 bU ((0:Int)≤t15∧t15<(x1.length:Int)) (
 bU ((0:Int)≤t15∧t15<(done.length:Int)) (
 bif (at' done t15.toNat)then
 some (.next (IntKind.wrap .i64 (t15+1)))
 else
 (mR (⟨x2,x21,x22,x23⟩:aD) (⟨o0,state.locked,state.badLink,state.on_,state.badSource,state.earthed,state.badBus⟩:State) (at' x1 t15.toNat)).bind fun r_=>
 bif r_.2 then
 bU ((0:Int)≤t15∧t15<(done.length:Int)) (
 (mI t15 r_.1.closed state.locked state.badLink state.on_ state.badSource state.earthed state.badBus (⟨o0,state.locked,state.badLink,state.on_,state.badSource,state.earthed,state.badBus⟩:State) o01).bind fun r_1=>
 some (.done (.ret (.next (r_.1.closed,r_1.2,(done.set t15.toNat true))))))
 else
 some (.next (IntKind.wrap .i64 (t15+1)))))
 else
 some (.done (.brk ()))
def jF (x1:(List Transfer)) (x2:Int) (x21:(List Source)) (x22:(List Link)) (x23:(List aN)) (state:State):((List Bool) × (List Int) × (List Bool))→Option (aT ((List Bool) × (List Int) × (List Bool)) (Ex ((List Bool) × (List Int)) (State × State × (List Int)))):=
 fun zz=>match zz with
 |(o0,o01,done)=>
 Option.bind (aC (jI x1 x2 x21 x22 x23 state o0 o01 done) FUEL (0)) fun o=>match o with
 | .ret v=>some v
 | .brk _=>
 some (.done (.brk (o0,o01)))
def pO (x1:(List Transfer)) (x2:Int) (x21:(List Source)) (x22:(List Link)) (x23:(List aN)) (state:State) (state1:State) (o_:(List Int)):Option (State × State × (List Int)):=
 Option.bind (α:=Unit) (
 bU (((0:Int)≤(x1.length:Int))∧((1:Int)*(x1.length:Int)≤281474976710656)∧(((x1.length:Int):Int)≤9223372036854775807)) (
 some ())) fun _=>
 Option.bind (aC (jF x1 x2 x21 x22 x23 state) FUEL (state.closed,o_,(List.replicate ((x1.length:Int).toNat) (false:Bool)))) fun o=>match o with
 | .ret v=>some v
 | .brk (o02,o03)=>
 some ((⟨o02,state.locked,state.badLink,state.on_,state.badSource,state.earthed,state.badBus⟩:State),(⟨o02,state.locked,state.badLink,state.on_,state.badSource,state.earthed,state.badBus⟩:State),o03)
def jM (p:aD) (s_:State) (l:(List Transfer)):Option (State × (List Int) × Int):=
 (fB p s_ l).bind fun r_=>
 bif (!decide (r_=0))then
 some ((⟨([]:List Bool),([]:List Bool),([]:List Bool),([]:List Bool),([]:List Bool),([]:List Bool),([]:List Bool)⟩:State),([]:List Int),r_)
 else
 (oV s_).bind fun r_1=>
 (oH p r_1 l).bind fun r_2=>
 (pO r_2.1 r_2.2.1 r_2.2.2.1 r_2.2.2.2.1 r_2.2.2.2.2.1 r_1 r_1 ([]:List Int)).bind fun r_3=>
 some ((⟨r_3.1.closed,r_1.locked,r_1.badLink,r_1.on_,r_1.badSource,r_1.earthed,r_1.badBus⟩:State),r_3.2.2,0)
def jo (s_:(List Part)) (v_:Part):Int→Option (aT Int (Ex Unit Int)):=
 fun t8=>
 bif (decide (t8<(s_.length:Int)))then
 bU ((0:Int)≤t8∧t8<(s_.length:Int)) (
 bif ((decide (v_.kind=((at' s_ t8.toNat).kind))) && ((decide (v_.index=((at' s_ t8.toNat).index))) && true))then
 some (.done (.ret t8))
 else
 some (.next (IntKind.wrap .i64 (t8+1))))
 else
 some (.done (.brk ()))
def oU (s_:(List Part)) (v_:Part):Option Int:=
 Option.bind (aC (jo s_ v_) FUEL (0)) fun o=>match o with
 | .ret v=>some v
 | .brk _=>
 some (-1)
def fQ (s_:(List Part)) (v_:Part):Option Bool:=
 (oU s_ v_).bind fun r_=>
 some (decide (0≤r_))
def tq (kz:Int) (x1:Int):Option Bool:=
 some (bif (decide (kz<0))then true else(decide (x1≤kz)))
def fO (s_:(List Int)) (f_:Int):Int→Option (aT Int (Ex Unit Int)):=
 fun t8=>
 bif (decide (t8<(s_.length:Int)))then
 (tq (at' s_ t8.toNat) f_).bind fun r_=>
 bU ((0:Int)≤t8∧t8<(s_.length:Int)) (
 bif r_ then
 some (.done (.ret t8))
 else
 some (.next (IntKind.wrap .i64 (t8+1))))
 else
 some (.done (.brk ()))
def kZ (s_:(List Int)) (f_:Int):Option Int:=
 Option.bind (aC (fO s_ f_) FUEL (0)) fun o=>match o with
 | .ret v=>some v
 | .brk _=>
 some (-1)
def fP (s_:(List Int)) (f_:Int):Option Bool:=
 (kZ s_ f_).bind fun r_=>
 some (decide (0≤r_))
def ny (y:ah) (i:Int):Int→Option (aT Int (Ex Unit Bool)):=
 fun t16=>
 bif (decide (t16<(((at' y.jobs i.toNat).parts).length:Int)))then
 bU ((0:Int)≤t16∧t16<(((at' y.jobs i.toNat).parts).length:Int)) (
 (fQ (yF ((at' y.jobs i.toNat).parts) 0 t16.toNat) (at' ((at' y.jobs i.toNat).parts) t16.toNat)).bind fun r_=>
 bU ((0:Int)≤t16∧t16≤(((at' y.jobs i.toNat).parts).length:Int)) (
 bif r_ then
 some (.done (.ret false))
 else
 some (.next (IntKind.wrap .i64 (t16+1)))))
 else
 some (.done (.brk ()))
def rq (y:ah) (i:Int):Option Bool:=
 bU ((0:Int)≤i∧i<(y.jobs.length:Int)) (
 Option.bind (aC (ny y i) FUEL (0)) fun o=>match o with
 | .ret v=>some v
 | .brk _=>
 (bif gB [((bif (bif (bif (bif (bif (bif (bif (bif (bif (bif (decide (1≤(((at' y.jobs i.toNat).parts).length:Int)))then(decide ((((at' y.jobs i.toNat).parts).length:Int)≤8))else false)then(decide (1≤((at' y.jobs i.toNat).hours)))else false)then(decide (((at' y.jobs i.toNat).hours)≤48))else false)then(decide (0≤((at' y.jobs i.toNat).from_)))else false)then(decide (1≤((at' y.jobs i.toNat).to_)))else false)then(decide (((at' y.jobs i.toNat).to_)≤48))else false)then(decide (((at' y.jobs i.toNat).from_)≤(IntKind.wrap .i64 (((at' y.jobs i.toNat).to_) - ((at' y.jobs i.toNat).hours)))))else false)then(decide (1≤((at' y.jobs i.toNat).people)))else false)then(decide (((at' y.jobs i.toNat).people)≤20))else false)then(decide ((((at' y.jobs i.toNat).after).length:Int)≤8))else false),true)]then fP ((at' y.jobs i.toNat).after) i else some default).bind fun r_1=>
 some (bif (bif (bif (bif (bif (bif (bif (bif (bif (bif (bif (decide (1≤(((at' y.jobs i.toNat).parts).length:Int)))then(decide ((((at' y.jobs i.toNat).parts).length:Int)≤8))else false)then(decide (1≤((at' y.jobs i.toNat).hours)))else false)then(decide (((at' y.jobs i.toNat).hours)≤48))else false)then(decide (0≤((at' y.jobs i.toNat).from_)))else false)then(decide (1≤((at' y.jobs i.toNat).to_)))else false)then(decide (((at' y.jobs i.toNat).to_)≤48))else false)then(decide (((at' y.jobs i.toNat).from_)≤(IntKind.wrap .i64 (((at' y.jobs i.toNat).to_) - ((at' y.jobs i.toNat).hours)))))else false)then(decide (1≤((at' y.jobs i.toNat).people)))else false)then(decide (((at' y.jobs i.toNat).people)≤20))else false)then(decide ((((at' y.jobs i.toNat).after).length:Int)≤8))else false)then(!r_1)else false))
def oF (s_:State):Option State:=
 bU ((0:Int)≤0∧0<(7:Int)) (
 (aR s_.closed).bind fun r_=>
 bU ((0:Int)≤1∧1<(7:Int)) (
 (aR s_.locked).bind fun r_1=>
 bU ((0:Int)≤2∧2<(7:Int)) (
 (aR s_.badLink).bind fun r_2=>
 bU ((0:Int)≤3∧3<(7:Int)) (
 (aR s_.on_).bind fun r_3=>
 bU ((0:Int)≤4∧4<(7:Int)) (
 (aR s_.badSource).bind fun r_4=>
 bU ((0:Int)≤5∧5<(7:Int)) (
 (aR s_.earthed).bind fun r_5=>
 bU ((0:Int)≤6∧6<(7:Int)) (
 (aR s_.badBus).bind fun r_6=>
 some (⟨r_,r_1,r_2,r_3,r_4,r_5,r_6⟩:State))))))))
def jV (p:aD) (s_:State) (x:Part) (is:Bool):Option (State × Int):=
 (dX p s_).bind fun r_=>
 bif (!decide (r_=0))then
 some ((⟨([]:List Bool),([]:List Bool),([]:List Bool),([]:List Bool),([]:List Bool),([]:List Bool),([]:List Bool)⟩:State),r_)
 else
 (oF s_).bind fun r_1=>
 bif (bP x.kind 1)then
 (aO x.index 0 (IntKind.wrap .i64 ((r_1.badBus.length:Int) - 1))).bind fun r_2=>
 bif (!r_2)then
 some ((⟨([]:List Bool),([]:List Bool),([]:List Bool),([]:List Bool),([]:List Bool),([]:List Bool),([]:List Bool)⟩:State),14)
 else
 bU ((0:Int)≤x.index∧x.index<(r_1.badBus.length:Int)) (
 some ((⟨r_1.closed,r_1.locked,r_1.badLink,r_1.on_,r_1.badSource,r_1.earthed,(r_1.badBus.set x.index.toNat is)⟩:State),0))
 else
 bif (bP x.kind 2)then
 (aO x.index 0 (IntKind.wrap .i64 ((r_1.badSource.length:Int) - 1))).bind fun r_3=>
 bif (!r_3)then
 some ((⟨([]:List Bool),([]:List Bool),([]:List Bool),([]:List Bool),([]:List Bool),([]:List Bool),([]:List Bool)⟩:State),14)
 else
 bU ((0:Int)≤x.index∧x.index<(r_1.badSource.length:Int)) (
 some ((⟨r_1.closed,r_1.locked,r_1.badLink,r_1.on_,(r_1.badSource.set x.index.toNat is),r_1.earthed,r_1.badBus⟩:State),0))
 else
 bif (bP x.kind 3)then
 (aO x.index 0 (IntKind.wrap .i64 ((r_1.badLink.length:Int) - 1))).bind fun r_4=>
 bif (!r_4)then
 some ((⟨([]:List Bool),([]:List Bool),([]:List Bool),([]:List Bool),([]:List Bool),([]:List Bool),([]:List Bool)⟩:State),14)
 else
 bU ((0:Int)≤x.index∧x.index<(r_1.badLink.length:Int)) (
 some ((⟨r_1.closed,r_1.locked,(r_1.badLink.set x.index.toNat is),r_1.on_,r_1.badSource,r_1.earthed,r_1.badBus⟩:State),0))
 else
 (aO x.index 0 (-1)).bind fun r_5=>
 bif (!r_5)then
 some ((⟨([]:List Bool),([]:List Bool),([]:List Bool),([]:List Bool),([]:List Bool),([]:List Bool),([]:List Bool)⟩:State),14)
 else
 none
def gW (p:aD) (s_:State) (x:Part):Option (State × Int):=
 (jV p s_ x true).bind fun r_=>
 some (r_.1,r_.2)
def nA (y:ah) (t33:Int):Int→Option (aT Int (Ex Unit (aT Int (Ex Unit Int)))):=
 fun t45=>
 bif (decide (t45<(((at' y.jobs t33.toNat).parts).length:Int)))then
 bU ((0:Int)≤t45∧t45<(((at' y.jobs t33.toNat).parts).length:Int)) (
 (gW y.plant y.state (at' ((at' y.jobs t33.toNat).parts) t45.toNat)).bind fun r_2=>
 bif (!decide (r_2.2=0))then
 some (.done (.ret (.done (.ret r_2.2))))
 else
 some (.next (IntKind.wrap .i64 (t45+1))))
 else
 some (.done (.brk ()))
def ni (y:ah):Int→Option (aT Int (Ex Unit Int)):=
 fun t33=>
 bif (decide (t33<(y.jobs.length:Int)))then
 bU ((0:Int)≤t33∧t33<(y.jobs.length:Int)) (
 (rq y t33).bind fun r_1=>
 bif (!r_1)then
 some (.done (.ret 120))
 else
 Option.bind (aC (nA y t33) FUEL (0)) fun o=>match o with
 | .ret v=>some v
 | .brk _=>
 some (.next (IntKind.wrap .i64 (t33+1))))
 else
 some (.done (.brk ()))
def dS (y:ah):Option Int:=
 (jM y.plant y.state y.transfers).bind fun r_=>
 bif (!decide (r_.2.2=0))then
 some r_.2.2
 else
 bif (decide (5<(y.jobs.length:Int)))then
 some 2
 else
 Option.bind (aC (ni y) FUEL (0)) fun o=>match o with
 | .ret v=>some v
 | .brk _=>
 bif (bif (decide (y.people<0))then true else(decide (1000<y.people)))then
 some 1
 else
 some 0
def sN (l:(List Int)):Option (List Int):=
 bU ((l.length*8≤140737488355328)∧(l.length≤4611686018427387904)) (
 some l)
def oz (l:(List Source)):Option (List Source):=
 bU ((l.length*40≤140737488355328)∧(l.length≤4611686018427387904)) (
 some l)
def qE (l:(List nJ)):Option (List nJ):=
 bU ((l.length*16≤140737488355328)∧(l.length≤4611686018427387904)) (
 some l)
def oZ (x:Link):Option Link:=
 (qE x.trip).bind fun r_=>
 some (⟨x.a,x.b,x.kind,x.most,x.ohm,r_⟩:Link)
def fG (l:(List Link)):((List Link) × Int)→Option (aT ((List Link) × Int) (Ex (List Link) (List Link))):=
 fun zz=>match zz with
 |(out,i)=>
 bif (decide (i<(l.length:Int)))then
 (oZ (at' l i.toNat)).bind fun r_=>
 bU (((0:Int)≤i∧i<(l.length:Int))∧((out.length+[r_].length)*64≤140737488355328)∧(out.length+[r_].length≤4611686018427387904)) (
 some (.next ((out++[r_]),(IntKind.wrap .i64 (i+1)))))
 else
 some (.done (.brk out))
def qH (l:(List Link)):Option (List Link):=
 Option.bind (aC (fG l) FUEL (([]:List Link),0)) fun o=>match o with
 | .ret v=>some v
 | .brk out1=>
 some out1
def qJ (l:(List aN)):Option (List aN):=
 bU ((l.length*32≤140737488355328)∧(l.length≤4611686018427387904)) (
 some l)
def nk (x:aD):Option aD:=
 (oz x.sources).bind fun r_=>
 (qH x.links).bind fun r_1=>
 (qJ x.racks).bind fun r_2=>
 some (⟨x.buses,r_,r_1,r_2⟩:aD)
def cu (l:(List Bool)):Option (List Bool):=
 bU ((l.length*1≤140737488355328)∧(l.length≤4611686018427387904)) (
 some l)
def nD (x:State):Option State:=
 (cu x.closed).bind fun r_=>
 (cu x.locked).bind fun r_1=>
 (cu x.badLink).bind fun r_2=>
 (cu x.on_).bind fun r_3=>
 (cu x.badSource).bind fun r_4=>
 (cu x.earthed).bind fun r_5=>
 (cu x.badBus).bind fun r_6=>
 some (⟨r_,r_1,r_2,r_3,r_4,r_5,r_6⟩:State)
def iW (l:(List Part)):Option (List Part):=
 bU ((l.length*16≤140737488355328)∧(l.length≤4611686018427387904)) (
 some l)
def jS (y:xH):((List Transfer) × Int)→Option (aT ((List Transfer) × Int) (Ex (List Transfer) ah)):=
 fun zz=>match zz with
 |(x11,i)=>
 bif (decide (i<(y.transfers.length:Int)))then
 bU (((0:Int)≤i∧i<(y.transfers.length:Int))∧((x11.length+[(at' y.transfers i.toNat)].length)*24≤140737488355328)∧(x11.length+[(at' y.transfers i.toNat)].length≤4611686018427387904)) (
 some (.next ((x11++[(at' y.transfers i.toNat)]),(IntKind.wrap .i64 (i+1)))))
 else
 some (.done (.brk x11))
def jQ (y:xH):((List eP) × Int)→Option (aT ((List eP) × Int) (Ex (List eP) ah)):=
 fun zz=>match zz with
 |(x12,i1)=>
 bif (decide (i1<(y.jobs.length:Int)))then
 bU ((0:Int)≤i1∧i1<(y.jobs.length:Int)) (
 (iW ((at' y.jobs i1.toNat).parts)).bind fun r_2=>
 (sN ((at' y.jobs i1.toNat).after)).bind fun r_3=>
 bU (((x12.length+[(⟨r_2,(at' y.jobs i1.toNat).hours,(at' y.jobs i1.toNat).from_,(at' y.jobs i1.toNat).to_,(at' y.jobs i1.toNat).people,r_3⟩:eP)].length)*80≤140737488355328)∧(x12.length+[(⟨r_2,(at' y.jobs i1.toNat).hours,(at' y.jobs i1.toNat).from_,(at' y.jobs i1.toNat).to_,(at' y.jobs i1.toNat).people,r_3⟩:eP)].length≤4611686018427387904)) (
 some (.next ((x12++[(⟨r_2,(at' y.jobs i1.toNat).hours,(at' y.jobs i1.toNat).from_,(at' y.jobs i1.toNat).to_,(at' y.jobs i1.toNat).people,r_3⟩:eP)]),(IntKind.wrap .i64 (i1+1))))))
 else
 some (.done (.brk x12))
def gX (y:xH):Option ah:=
 (nk y.plant).bind fun r_=>
 (nD y.state).bind fun r_1=>
 Option.bind (aC (jS y) FUEL (([]:List Transfer),0)) fun o=>match o with
 | .ret v=>some v
 | .brk x111=>
 Option.bind (aC (jQ y) FUEL (([]:List eP),0)) fun o=>match o with
 | .ret v=>some v
 | .brk x121=>
 some (⟨r_,r_1,x111,x121,y.people,y.redundant⟩:ah)
def dQ (s_:Int):Option Int:=
 some s_
def bC:Option nC:=
 some (⟨1,2,4,8,16⟩:nC)
def fe (s_:Int) (i:Int):Option Bool:=
 (bC).bind fun r_=>
 bU ((0:Int)≤i∧i<((5:Nat):Int)) (
 some (!decide ((IntKind.wrap .u8 (((BitVec.ofInt (IntKind.bits .u8) s_ &&& BitVec.ofInt (IntKind.bits .u8) (at' [r_.e0,r_.e1,r_.e2,r_.e3,r_.e4] i.toNat)).toNat:Int)))=0)))
def lm (x29:Int) (o_:(List (Int × Bool))) (set:Int) (bool:Bool):Option Bool:=
 (bif gB [(bool,true)]then bC else some default).bind fun r_=>
 bU (gB [(bool,true)]=true→(0:Int)≤x29∧x29<((5:Nat):Int)) (
 some (bif bool then((aV bP (IntKind.wrap .u8 (((BitVec.ofInt (IntKind.bits .u8) set &&& ~~~ BitVec.ofInt (IntKind.bits .u8) (at' [r_.e0,r_.e1,r_.e2,r_.e3,r_.e4] x29.toNat)).toNat:Int))) o_).getD false)else false))
def eF (x1:Int) (o_:(List (Int × Bool))) (set:Int):(Bool × Int)→Option (aT (Bool × Int) (Ex Bool Bool)):=
 fun zz=>match zz with
 |(o0,t4)=>
 bif (decide (t4<5))then
 (fe x1 t4).bind fun r_=>
 bif r_ then
 (lm t4 o_ set o0).bind fun r_1=>
 some (.next (r_1,(IntKind.wrap .i64 (t4+1))))
 else
 some (.next (o0,(IntKind.wrap .i64 (t4+1))))
 else
 some (.done (.brk o0))
def lH (x1:Int) (o_:(List (Int × Bool))) (set:Int) (bool:Bool):Option Bool:=
 Option.bind (aC (eF x1 o_ set) FUEL (bool,0)) fun o=>match o with
 | .ret v=>some v
 | .brk o01=>
 some o01
def jR (x9:Int) (yard:ah) (int:Int):Option Int:=
 bU ((0:Int)≤x9∧x9<(yard.jobs.length:Int)) (
 some (IntKind.wrap .i64 (int+((at' yard.jobs x9.toNat).people))))
def dA (x1:Int) (yard:ah):(Int × Int)→Option (aT (Int × Int) (Ex Int Int)):=
 fun zz=>match zz with
 |(o0,t4)=>
 bif (decide (t4<5))then
 (fe x1 t4).bind fun r_=>
 bif r_ then
 (jR t4 yard o0).bind fun r_1=>
 some (.next (r_1,(IntKind.wrap .i64 (t4+1))))
 else
 some (.next (o0,(IntKind.wrap .i64 (t4+1))))
 else
 some (.done (.brk o0))
def lZ (x1:Int) (yard:ah) (int:Int):Option Int:=
 Option.bind (aC (dA x1 yard) FUEL (int,0)) fun o=>match o with
 | .ret v=>some v
 | .brk o01=>
 some o01
def iH (y:ah) (s_:Int):Option Bool:=
 (dQ s_).bind fun r_=>
 (lZ r_ y 0).bind fun r_1=>
 some (decide (r_1≤y.people))
def ko (holds:ah) (set:Int):Option Bool:=
 (iH holds set).bind fun r_=>
 some (!r_)
def lV (x9:Int) (yard:ah) (part:(List Part)):Option (List Part):=
 bU (((0:Int)≤x9∧x9<(yard.jobs.length:Int))∧((part.length+((at' yard.jobs x9.toNat).parts).length)*16≤140737488355328)∧(part.length+((at' yard.jobs x9.toNat).parts).length≤4611686018427387904)) (
 some (part++((at' yard.jobs x9.toNat).parts)))
def dz (x1:Int) (yard:ah):((List Part) × Int)→Option (aT ((List Part) × Int) (Ex (List Part) (List Part))):=
 fun zz=>match zz with
 |(o0,t4)=>
 bif (decide (t4<5))then
 (fe x1 t4).bind fun r_=>
 bif r_ then
 (lV t4 yard o0).bind fun r_1=>
 some (.next (r_1,(IntKind.wrap .i64 (t4+1))))
 else
 some (.next (o0,(IntKind.wrap .i64 (t4+1))))
 else
 some (.done (.brk o0))
def l9 (x1:Int) (yard:ah) (part:(List Part)):Option (List Part):=
 Option.bind (aC (dz x1 yard) FUEL (part,0)) fun o=>match o with
 | .ret v=>some v
 | .brk o01=>
 some o01
def gH (y:ah) (s_:Int):Option (List Part):=
 (dQ s_).bind fun r_=>
 (l9 r_ y ([]:List Part)).bind fun r_1=>
 some r_1
def jh (r_:(List Part)):Int→Option (aT Int (Ex Unit Bool)):=
 fun t13=>
 bif (decide (t13<(r_.length:Int)))then
 bU ((0:Int)≤t13∧t13<(r_.length:Int)) (
 (fQ (yF r_ 0 t13.toNat) (at' r_ t13.toNat)).bind fun r_1=>
 bU ((0:Int)≤t13∧t13≤(r_.length:Int)) (
 bif r_1 then
 some (.done (.ret false))
 else
 some (.next (IntKind.wrap .i64 (t13+1)))))
 else
 some (.done (.brk ()))
def jk (y:ah) (s_:Int):Option Bool:=
 (gH y s_).bind fun r_=>
 Option.bind (aC (jh r_) FUEL (0)) fun o=>match o with
 | .ret v=>some v
 | .brk _=>
 some true
def iL (holds:ah) (set:Int):Option Bool:=
 (jk holds set).bind fun r_=>
 some (!r_)
def jJ (p:aD) (parts:(List Part)):((List Bool) × (List Bool) × (List Bool) × (List Bool) × (List Bool) × (List Bool) × (List Bool) × Int)→Option (aT ((List Bool) × (List Bool) × (List Bool) × (List Bool) × (List Bool) × (List Bool) × (List Bool) × Int) (Ex ((List Bool) × (List Bool) × (List Bool) × (List Bool) × (List Bool) × (List Bool) × (List Bool)) (State × Int))):=
 fun zz=>match zz with
 |(s0,s1,s2,s3,s4,s5,s6,t26)=>
 bif (decide (t26<(parts.length:Int)))then
 bU ((0:Int)≤t26∧t26<(parts.length:Int)) (
 (gW p (⟨s0,s1,s2,s3,s4,s5,s6⟩:State) (at' parts t26.toNat)).bind fun r_1=>
 bif (!decide (r_1.2=0))then
 some (.done (.ret ((⟨([]:List Bool),([]:List Bool),([]:List Bool),([]:List Bool),([]:List Bool),([]:List Bool),([]:List Bool)⟩:State),r_1.2)))
 else
 some (.next (r_1.1.closed,r_1.1.locked,r_1.1.badLink,r_1.1.on_,r_1.1.badSource,r_1.1.earthed,r_1.1.badBus,(IntKind.wrap .i64 (t26+1)))))
 else
 some (.done (.brk (s0,s1,s2,s3,s4,s5,s6)))
def mM (p:aD) (s_:State) (l:(List Transfer)) (parts:(List Part)):Option (State × Int):=
 (fB p s_ l).bind fun r_=>
 bif (!decide (r_=0))then
 some ((⟨([]:List Bool),([]:List Bool),([]:List Bool),([]:List Bool),([]:List Bool),([]:List Bool),([]:List Bool)⟩:State),r_)
 else
 Option.bind (aC (jJ p parts) FUEL (s_.closed,s_.locked,s_.badLink,s_.on_,s_.badSource,s_.earthed,s_.badBus,0)) fun o=>match o with
 | .ret v=>some v
 | .brk (s01,s11,s21,s31,s41,s51,s61)=>
 (jM p (⟨s01,s11,s21,s31,s41,s51,s61⟩:State) l).bind fun r_2=>
 some (r_2.1,r_2.2.2)
def jO (p:aD) (r_:((List Bool) × Int)):((List bG) × Int)→Option (aT ((List bG) × Int) (Ex (List bG) ((List bG) × Int))):=
 fun zz=>match zz with
 |(out,t26)=>
 bif (decide (t26<(p.racks.length:Int)))then
 bU ((0:Int)≤t26∧t26<(p.racks.length:Int)) (
 bU (gB [((decide (0≤(((at' p.racks t26.toNat).feeds).e0))),true)]=true→(0:Int)≤((at' p.racks t26.toNat).feeds).e0∧((at' p.racks t26.toNat).feeds).e0<(r_.1.length:Int)) (
 bU (gB [((decide (0≤(((at' p.racks t26.toNat).feeds).e1))),true)]=true→(0:Int)≤((at' p.racks t26.toNat).feeds).e1∧((at' p.racks t26.toNat).feeds).e1<(r_.1.length:Int)) (
 bU (((out.length+[(⟨(bif (decide (0≤(((at' p.racks t26.toNat).feeds).e0)))then(at' r_.1 ((((at' p.racks t26.toNat).feeds).e0).toNat))else false),(bif (decide (0≤(((at' p.racks t26.toNat).feeds).e1)))then(at' r_.1 ((((at' p.racks t26.toNat).feeds).e1).toNat))else false)⟩:bG)].length)*2≤140737488355328)∧(out.length+[(⟨(bif (decide (0≤(((at' p.racks t26.toNat).feeds).e0)))then(at' r_.1 ((((at' p.racks t26.toNat).feeds).e0).toNat))else false),(bif (decide (0≤(((at' p.racks t26.toNat).feeds).e1)))then(at' r_.1 ((((at' p.racks t26.toNat).feeds).e1).toNat))else false)⟩:bG)].length≤4611686018427387904)) (
 some (.next ((out++[(⟨(bif (decide (0≤(((at' p.racks t26.toNat).feeds).e0)))then(at' r_.1 ((((at' p.racks t26.toNat).feeds).e0).toNat))else false),(bif (decide (0≤(((at' p.racks t26.toNat).feeds).e1)))then(at' r_.1 ((((at' p.racks t26.toNat).feeds).e1).toNat))else false)⟩:bG)]),(IntKind.wrap .i64 (t26+1))))))))
 else
 some (.done (.brk out))
def qd (p:aD) (s_:State):Option ((List bG) × Int):=
 (dP p s_).bind fun r_=>
 bif (!decide (r_.2=0))then
 some (([]:List bG),r_.2)
 else
 Option.bind (aC (jO p r_) FUEL (([]:List bG),0)) fun o=>match o with
 | .ret v=>some v
 | .brk out1=>
 some (out1,0)
def dV (y:ah) (least:Int) (r_1:((List bG) × Int)):Int→Option (aT Int (Ex Unit Bool)):=
 fun t35=>
 bif (decide (t35<(y.plant.racks.length:Int)))then
 bU ((0:Int)≤t35∧t35<(y.plant.racks.length:Int)) (
 bU ((gB [((decide (least≤((at' y.plant.racks t35.toNat).paths))),true)]=true→(0:Int)≤t35∧t35<(r_1.1.length:Int))∧(gB [((bif (decide (least≤((at' y.plant.racks t35.toNat).paths)))then(!((at' r_1.1 t35.toNat).e0))else false),true)]=true→(0:Int)≤t35∧t35<(r_1.1.length:Int))) (
 bif (bif (bif (decide (least≤((at' y.plant.racks t35.toNat).paths)))then(!((at' r_1.1 t35.toNat).e0))else false)then(!((at' r_1.1 t35.toNat).e1))else false)then
 some (.done (.ret false))
 else
 some (.next (IntKind.wrap .i64 (t35+1)))))
 else
 some (.done (.brk ()))
def dN (y:ah) (parts:(List Part)) (least:Int):Option Bool:=
 (mM y.plant y.state y.transfers parts).bind fun r_=>
 (qd y.plant r_.1).bind fun r_1=>
 Option.bind (aC (dV y least r_1) FUEL (0)) fun o=>match o with
 | .ret v=>some v
 | .brk _=>
 some true
def iZ (y:ah) (s_:Int):Option Bool:=
 (gH y s_).bind fun r_=>
 (dN y r_ 1).bind fun r_1=>
 some r_1
def iJ (holds:ah) (set:Int):Option Bool:=
 (iZ holds set).bind fun r_=>
 some (!r_)
def jW (p:aD) (t24:Int):((List Part) × Int)→Option (aT ((List Part) × Int) (Ex (List Part) (aT ((List Part) × Int) (Ex (List Part) ((List Part) × Int))))):=
 fun zz=>match zz with
 |(out2,t30)=>
 bif (decide (t30<(at' [p.buses,(p.sources.length:Int),(p.links.length:Int)] t24.toNat)))then
 bU (((out2.length+[(⟨(IntKind.wrap .i64 (t24+1)),t30⟩:Part)].length)*16≤140737488355328)∧(out2.length+[(⟨(IntKind.wrap .i64 (t24+1)),t30⟩:Part)].length≤4611686018427387904)) (
 some (.next ((out2++[(⟨(IntKind.wrap .i64 (t24+1)),t30⟩:Part)]),(IntKind.wrap .i64 (t30+1)))))
 else
 some (.done (.brk out2))
def iy (p:aD):((List Part) × Int)→Option (aT ((List Part) × Int) (Ex (List Part) ((List Part) × Int))):=
 fun zz=>match zz with
 |(out,t24)=>
 bif (decide (t24<([p.buses,(p.sources.length:Int),(p.links.length:Int)].length:Int)))then
 bU ((0:Int)≤t24∧t24<([p.buses,(p.sources.length:Int),(p.links.length:Int)].length:Int)) (
 Option.bind (aC (jW p t24) FUEL (out,0)) fun o=>match o with
 | .ret v=>some v
 | .brk out3=>
 some (.next (out3,(IntKind.wrap .i64 (t24+1)))))
 else
 some (.done (.brk out))
def mY (p:aD):Option ((List Part) × Int):=
 (mP p).bind fun r_=>
 bif (!decide (r_=0))then
 some (([]:List Part),r_)
 else
 Option.bind (aC (iy p) FUEL (([]:List Part),0)) fun o=>match o with
 | .ret v=>some v
 | .brk out1=>
 some (out1,0)
def bR (y:ah) (s_:Int) (r_:((List Part) × Int)):Int→Option (aT Int (Ex Unit Bool)):=
 fun t21=>
 bif (decide (t21<(r_.1.length:Int)))then
 bU ((0:Int)≤t21∧t21<(r_.1.length:Int)) (
 bU (((0:Int)≤(at' r_.1 t21.toNat).kind∧(at' r_.1 t21.toNat).kind<([([]:List Bool),y.state.badBus,y.state.badSource,y.state.badLink].length:Int))∧((0:Int)≤(at' r_.1 t21.toNat).index∧(at' r_.1 t21.toNat).index<((at' [([]:List Bool),y.state.badBus,y.state.badSource,y.state.badLink] (((at' r_.1 t21.toNat).kind).toNat)).length:Int))) (
 bif (!(at' (at' [([]:List Bool),y.state.badBus,y.state.badSource,y.state.badLink] (((at' r_.1 t21.toNat).kind).toNat)) (((at' r_.1 t21.toNat).index).toNat)))then
 (gH y s_).bind fun r_1=>
 (dN y (r_1++[(at' r_.1 t21.toNat)]) 2).bind fun r_2=>
 bU ((gB [(true,true)]=true→(r_1.length+[(at' r_.1 t21.toNat)].length)*16≤140737488355328)∧(gB [(true,true)]=true→r_1.length+[(at' r_.1 t21.toNat)].length≤4611686018427387904)) (
 bif (!r_2)then
 some (.done (.ret false))
 else
 some (.next (IntKind.wrap .i64 (t21+1))))
 else
 some (.next (IntKind.wrap .i64 (t21+1)))))
 else
 some (.done (.brk ()))
def dL (y:ah) (s_:Int):Option Bool:=
 bif (!y.redundant)then
 some true
 else
 (mY y.plant).bind fun r_=>
 Option.bind (aC (bR y s_ r_) FUEL (0)) fun o=>match o with
 | .ret v=>some v
 | .brk _=>
 some true
def iP (holds:ah) (set:Int):Option Bool:=
 (dL holds set).bind fun r_=>
 some (!r_)
def iI (o_:ah) (o_1:ah) (o_2:ah) (o_3:ah) (set:Int):Option Int:=
 (ko o_ set).bind fun r_=>
 bU ((0:Int)≤0∧0<(4:Int)) (
 bif r_ then
 some 0
 else
 (iL o_1 set).bind fun r_1=>
 bU ((0:Int)≤1∧1<(4:Int)) (
 bif r_1 then
 some 1
 else
 (iJ o_2 set).bind fun r_2=>
 bU ((0:Int)≤2∧2<(4:Int)) (
 bif r_2 then
 some 2
 else
 (iP o_3 set).bind fun r_3=>
 bU ((0:Int)≤3∧3<(4:Int)) (
 bif r_3 then
 some 3
 else
 some (-1)))))
def bZ (o_:ah) (o_1:ah) (o_2:ah) (o_3:ah) (set:Int):Option Bool:=
 (iI o_ o_1 o_2 o_3 set).bind fun r_=>
 some (decide (0≤r_))
def fo (y:ah):((List (Int × Bool)) × Int)→Option (aT ((List (Int × Bool)) × Int) (Ex (List (Int × Bool)) (List (Int × Bool)))):=
 fun zz=>match zz with
 |(out0,s0)=>
 bU ((0:Int)≤(y.jobs.length:Int)) (
 bif (decide (s0<(IntKind.wrap .u8 ((1:Int)*2 ^ min (y.jobs.length:Int).toNat (IntKind.bits .u8)))))then
 (dQ s0).bind fun r_=>
 (lH r_ out0 s0 true).bind fun r_1=>
 (bif gB [(r_1,true)]then bZ y y y y s0 else some default).bind fun r_2=>
 some (.next ((eD bP s0 (bif r_1 then(!r_2)else false) out0),(IntKind.wrap .u8 (s0+1))))
 else
 some (.done (.brk out0)))
def cO (y:ah):Option (List (Int × Bool)):=
 Option.bind (aC (fo y) FUEL ((eD bP 0 true ([]:(List (Int × Bool)))),1)) fun o=>match o with
 | .ret v=>some v
 | .brk out01=>
 some out01
def uV (x:eP) (int:Int):Option Bool:=
 some (decide (int≤(IntKind.wrap .i64 (x.from_+x.hours))))
def fI (s_:(List eP)) (int:Int):Int→Option (aT Int (Ex Unit Int)):=
 fun t8=>
 bif (decide (t8<(s_.length:Int)))then
 (uV (at' s_ t8.toNat) int).bind fun r_=>
 bU ((0:Int)≤t8∧t8<(s_.length:Int)) (
 bif r_ then
 some (.done (.ret t8))
 else
 some (.next (IntKind.wrap .i64 (t8+1))))
 else
 some (.done (.brk ()))
def kS (s_:(List eP)) (int:Int):Option Int:=
 Option.bind (aC (fI s_ int) FUEL (0)) fun o=>match o with
 | .ret v=>some v
 | .brk _=>
 some (-1)
def fM (s_:(List eP)) (int:Int):Option Bool:=
 (kS s_ int).bind fun r_=>
 some (decide (0≤r_))
def fF (y:ah) (starts:(List Int)):(Int × Int)→Option (aT (Int × Int) (Ex Int Int)):=
 fun zz=>match zz with
 |(n,t10)=>
 bif (decide (t10<(starts.length:Int)))then
 bU ((0:Int)≤t10∧t10<(starts.length:Int)) (
 bU ((0:Int)≤t10∧t10<(y.jobs.length:Int)) (
 some (.next ((if n<(IntKind.wrap .i64 ((at' starts t10.toNat)+((at' y.jobs t10.toNat).hours)))then(IntKind.wrap .i64 ((at' starts t10.toNat)+((at' y.jobs t10.toNat).hours)))else n),(IntKind.wrap .i64 (t10+1))))))
 else
 some (.done (.brk n))
def iU (y:ah) (starts:(List Int)):Option Int:=
 Option.bind (aC (fF y starts) FUEL (0,0)) fun o=>match o with
 | .ret v=>some v
 | .brk n1=>
 some n1
def oq (s_:(List Int)) (s_nn:Bool):Option (List Int):=
 bif (!s_nn)then
 some ([]:List Int)
 else
 bU (((([]:List Int).length+s_.length)*8≤140737488355328)∧(([]:List Int).length+s_.length≤4611686018427387904)) (
 some (([]:List Int)++s_))
def mJ (s:(List Int)):Option (List Int):=oq s true
def lM (kz:Int) (x1:(List Int)) (x2:Int) (x21:(List Source)) (x22:(List Link)) (x23:(List aN)) (x24:(List Bool)) (x25:(List Bool)) (x26:(List Bool)) (x27:(List Bool)) (x28:(List Bool)) (x29:(List Bool)) (x210:(List Bool)) (x211:(List Transfer)) (x212:(List eP)) (x213:Int) (x214:Bool) (x3:Int):Option Bool:=
 bU (((0:Int)≤kz∧kz<(x1.length:Int))∧((0:Int)≤kz∧kz<(x212.length:Int))∧((0:Int)≤x3∧x3<(x1.length:Int))) (
 some (decide ((at' x1 x3.toNat)<(IntKind.wrap .i64 ((at' x1 kz.toNat)+((at' x212 kz.toNat).hours))))))
def eH (s_:(List Int)) (f_:(List Int)) (f_1:Int) (f_2:(List Source)) (f_3:(List Link)) (f_4:(List aN)) (f_5:(List Bool)) (f_6:(List Bool)) (f_7:(List Bool)) (f_8:(List Bool)) (f_9:(List Bool)) (f_10:(List Bool)) (f_11:(List Bool)) (f_12:(List Transfer)) (f_13:(List eP)) (f_14:Int) (f_15:Bool) (f_16:Int):Int→Option (aT Int (Ex Unit Int)):=
 fun t8=>
 bif (decide (t8<(s_.length:Int)))then
 (lM (at' s_ t8.toNat) f_ f_1 f_2 f_3 f_4 f_5 f_6 f_7 f_8 f_9 f_10 f_11 f_12 f_13 f_14 f_15 f_16).bind fun r_=>
 bU ((0:Int)≤t8∧t8<(s_.length:Int)) (
 bif r_ then
 some (.done (.ret t8))
 else
 some (.next (IntKind.wrap .i64 (t8+1))))
 else
 some (.done (.brk ()))
def jB (s_:(List Int)) (f_:(List Int)) (f_1:Int) (f_2:(List Source)) (f_3:(List Link)) (f_4:(List aN)) (f_5:(List Bool)) (f_6:(List Bool)) (f_7:(List Bool)) (f_8:(List Bool)) (f_9:(List Bool)) (f_10:(List Bool)) (f_11:(List Bool)) (f_12:(List Transfer)) (f_13:(List eP)) (f_14:Int) (f_15:Bool) (f_16:Int):Option Int:=
 Option.bind (aC (eH s_ f_ f_1 f_2 f_3 f_4 f_5 f_6 f_7 f_8 f_9 f_10 f_11 f_12 f_13 f_14 f_15 f_16) FUEL (0)) fun o=>match o with
 | .ret v=>some v
 | .brk _=>
 some (-1)
def eG (s_:(List Int)) (f_:(List Int)) (f_1:Int) (f_2:(List Source)) (f_3:(List Link)) (f_4:(List aN)) (f_5:(List Bool)) (f_6:(List Bool)) (f_7:(List Bool)) (f_8:(List Bool)) (f_9:(List Bool)) (f_10:(List Bool)) (f_11:(List Bool)) (f_12:(List Transfer)) (f_13:(List eP)) (f_14:Int) (f_15:Bool) (f_16:Int):Option Bool:=
 (jB s_ f_ f_1 f_2 f_3 f_4 f_5 f_6 f_7 f_8 f_9 f_10 f_11 f_12 f_13 f_14 f_15 f_16).bind fun r_=>
 some (decide (0≤r_))
def iF (y:ah) (starts:(List Int)) (i:Int):Option Bool:=
 bU ((0:Int)≤i∧i<(y.jobs.length:Int)) (
 (bif gB [((bif (decide (((at' y.jobs i.toNat).from_)≤(at' starts i.toNat)))then(decide ((at' starts i.toNat)≤(IntKind.wrap .i64 (((at' y.jobs i.toNat).to_) - ((at' y.jobs i.toNat).hours)))))else false),true)]then eG ((at' y.jobs i.toNat).after) starts y.plant.buses y.plant.sources y.plant.links y.plant.racks y.state.closed y.state.locked y.state.badLink y.state.on_ y.state.badSource y.state.earthed y.state.badBus y.transfers y.jobs y.people y.redundant i else some default).bind fun r_=>
 bU (((0:Int)≤i∧i<(starts.length:Int))∧(gB [((decide (((at' y.jobs i.toNat).from_)≤(at' starts i.toNat))),true)]=true→(0:Int)≤i∧i<(starts.length:Int))) (
 some (bif (bif (decide (((at' y.jobs i.toNat).from_)≤(at' starts i.toNat)))then(decide ((at' starts i.toNat)≤(IntKind.wrap .i64 (((at' y.jobs i.toNat).to_) - ((at' y.jobs i.toNat).hours)))))else false)then(!r_)else false)))
def eu (o_:(List Int)) (yard:ah) (o02:(List (Int × Bool))) (o06:(List Int)) (at_:Int):(Bool × Int)→Option (aT (Bool × Int) (Ex Bool (aT ((List Int) × Int × (List Int) × (List (Int × Bool)) × (List Int) × Int) (Ex ((List Int) × Int × (List Int) × (List (Int × Bool)) × (List Int)) ((List Int) × Int × (List Int) × (List (Int × Bool)) × (List Int)))))):=
 fun zz=>match zz with
 |(fits,h_)=>
 bif (bif (decide (h_<(IntKind.wrap .i64 (at_+((at' yard.jobs ((o_.length:Int).toNat)).hours)))))then fits else false)then
 (bC).bind fun r_4=>
 bU (((0:Int)≤h_∧h_<(48:Nat))∧(h_.toNat<o06.length)∧((0:Int)≤(o_.length:Int)∧(o_.length:Int)<((5:Nat):Int))) (
 some (.next (((aV bP (IntKind.wrap .u8 (((BitVec.ofInt (IntKind.bits .u8) (at' o06 h_.toNat)|||BitVec.ofInt (IntKind.bits .u8) (at' [r_4.e0,r_4.e1,r_4.e2,r_4.e3,r_4.e4] ((o_.length:Int).toNat))).toNat:Int))) o02).getD false),(IntKind.wrap .i64 (h_+1)))))
 else
 some (.done (.brk fits))
def jT (o_:(List Int)) (yard:ah) (at_:Int):((List Int) × Int)→Option (aT ((List Int) × Int) (Ex (List Int) (aT ((List Int) × Int × (List Int) × (List (Int × Bool)) × (List Int) × Int) (Ex ((List Int) × Int × (List Int) × (List (Int × Bool)) × (List Int)) ((List Int) × Int × (List Int) × (List (Int × Bool)) × (List Int)))))):=
 fun zz=>match zz with
 |(o062,h_1)=>
 bif (decide (h_1<(IntKind.wrap .i64 (at_+((at' yard.jobs ((o_.length:Int).toNat)).hours)))))then
 (bC).bind fun r_5=>
 bU (((0:Int)≤h_1∧h_1<(48:Nat))∧(h_1.toNat<o062.length)∧((0:Int)≤(o_.length:Int)∧(o_.length:Int)<((5:Nat):Int))) (
 some (.next ((o062.set h_1.toNat (IntKind.wrap .u8 (((BitVec.ofInt (IntKind.bits .u8) (at' o062 h_1.toNat)|||BitVec.ofInt (IntKind.bits .u8) (at' [r_5.e0,r_5.e1,r_5.e2,r_5.e3,r_5.e4] ((o_.length:Int).toNat))).toNat:Int)))),(IntKind.wrap .i64 (h_1+1)))))
 else
 some (.done (.brk o062))
def jP (o_:(List Int)) (yard:ah) (at_:Int):((List Int) × Int)→Option (aT ((List Int) × Int) (Ex (List Int) (aT ((List Int) × Int × (List Int) × (List (Int × Bool)) × (List Int) × Int) (Ex ((List Int) × Int × (List Int) × (List (Int × Bool)) × (List Int)) ((List Int) × Int × (List Int) × (List (Int × Bool)) × (List Int)))))):=
 fun zz=>match zz with
 |(o064,h_2)=>
 bif (decide (h_2<(IntKind.wrap .i64 (at_+((at' yard.jobs ((o_.length:Int).toNat)).hours)))))then
 (bC).bind fun r_7=>
 bU (((0:Int)≤h_2∧h_2<(48:Nat))∧(h_2.toNat<o064.length)∧((0:Int)≤(o_.length:Int)∧(o_.length:Int)<((5:Nat):Int))) (
 some (.next ((o064.set h_2.toNat (IntKind.wrap .u8 (((BitVec.ofInt (IntKind.bits .u8) (at' o064 h_2.toNat) &&& ~~~ BitVec.ofInt (IntKind.bits .u8) (at' [r_7.e0,r_7.e1,r_7.e2,r_7.e3,r_7.e4] ((o_.length:Int).toNat))).toNat:Int)))),(IntKind.wrap .i64 (h_2+1)))))
 else
 some (.done (.brk o064))
def fE (rec:(List Int)→ah→Int→(List Int)→(List (Int × Bool))→(List Int)→Option ((List Int) × Int × (List Int) × (List (Int × Bool)) × (List Int))) (o_:(List Int)) (yard:ah):((List Int) × Int × (List Int) × (List (Int × Bool)) × (List Int) × Int)→Option (aT ((List Int) × Int × (List Int) × (List (Int × Bool)) × (List Int) × Int) (Ex ((List Int) × Int × (List Int) × (List (Int × Bool)) × (List Int)) ((List Int) × Int × (List Int) × (List (Int × Bool)) × (List Int)))):=
 fun zz=>match zz with
 |(o0,o000,o01,o02,o06,at_)=>
 bif (bif (decide (at_≤(IntKind.wrap .i64 (((at' yard.jobs ((o_.length:Int).toNat)).to_) - ((at' yard.jobs ((o_.length:Int).toNat)).hours)))))then(decide ((IntKind.wrap .i64 (at_+((at' yard.jobs ((o_.length:Int).toNat)).hours)))<o000))else false)then
 bU (((o0.length+[at_].length)*8≤140737488355328)∧(o0.length+[at_].length≤4611686018427387904)) (
 (iF yard (o0++[at_]) (o_.length:Int)).bind fun r_3=>
 Option.bind (aC (eu o_ yard o02 o06 at_) FUEL (r_3,at_)) fun o=>match o with
 | .ret v=>some v
 | .brk fits1=>
 bif fits1 then
 Option.bind (aC (jT o_ yard at_) FUEL (o06,at_)) fun o=>match o with
 | .ret v=>some v
 | .brk o063=>
 (rec (o0++[at_]) yard o000 o01 o02 o063).bind fun r_6=>
 Option.bind (aC (jP o_ yard at_) FUEL (r_6.2.2.2.2,at_)) fun o=>match o with
 | .ret v=>some v
 | .brk o065=>
 bU ((0:Int)≤(o_.length:Int)∧(o_.length:Int)≤(r_6.1.length:Int)) (
 some (.next ((r_6.1.take ((o_.length:Int).toNat)),r_6.2.1,r_6.2.2.1,r_6.2.2.2.1,o065,(IntKind.wrap .i64 (at_+1)))))
 else
 bU ((0:Int)≤(o_.length:Int)∧(o_.length:Int)≤((o0++[at_]).length:Int)) (
 some (.next (((o0++[at_]).take ((o_.length:Int).toNat)),o000,o01,o02,o06,(IntKind.wrap .i64 (at_+1))))))
 else
 some (.done (.brk (o0,o000,o01,o02,o06)))
def kE (rec:(List Int)→ah→Int→(List Int)→(List (Int × Bool))→(List Int)→Option ((List Int) × Int × (List Int) × (List (Int × Bool)) × (List Int))) (o_:(List Int)) (yard:ah) (int:Int) (o_1:(List Int)) (o_2:(List (Int × Bool))) (l:(List Int)):Option ((List Int) × Int × (List Int) × (List (Int × Bool)) × (List Int)):=
 (fM (yard.jobs.drop ((o_.length:Int).toNat)) int).bind fun r_=>
 bU ((0:Int)≤(o_.length:Int)∧(o_.length:Int)≤(yard.jobs.length:Int)) (
 bif r_ then
 some (o_,int,o_1,o_2,l)
 else
 bif (decide ((o_.length:Int)=(yard.jobs.length:Int)))then
 (iU yard o_).bind fun r_1=>
 bif (decide (r_1<int))then
 (mJ o_).bind fun r_2=>
 some (o_,r_1,r_2,o_2,l)
 else
 some (o_,int,o_1,o_2,l)
 else
 bU ((0:Int)≤(o_.length:Int)∧(o_.length:Int)<(yard.jobs.length:Int)) (
 Option.bind (aC (fE rec o_ yard) FUEL (o_,int,o_1,o_2,l,(at' yard.jobs ((o_.length:Int).toNat)).from_)) fun o=>match o with
 | .ret v=>some v
 | .brk (o03,o0001,o04,o05,o061)=>
 some (o03,o0001,o04,o05,o061)))
def jC:Nat→(List Int)→ah→Int→(List Int)→(List (Int × Bool))→(List Int)→Option ((List Int) × Int × (List Int) × (List (Int × Bool)) × (List Int))
 |0,_,_,_,_,_,_=>none
 |n+1,o_,yard,int,o_1,o_2,l=>kE (jC n) o_ yard int o_1 o_2 l
def om (y:ah) (r_1:(List (Int × Bool))):Int→Option (aT Int (Ex Unit ((List Int) × Int))):=
 fun t23=>
 bif (decide (t23<(y.jobs.length:Int)))then
 (bC).bind fun r_2=>
 bU ((0:Int)≤t23∧t23<((5:Nat):Int)) (
 bif (!((aV bP (at' [r_2.e0,r_2.e1,r_2.e2,r_2.e3,r_2.e4] t23.toNat) r_1).getD false))then
 some (.done (.ret (([]:List Int),4)))
 else
 some (.next (IntKind.wrap .i64 (t23+1))))
 else
 some (.done (.brk ()))
def jY (y:ah):Option ((List Int) × Int):=
 (dS y).bind fun r_=>
 bif (!decide (r_=0))then
 some (([]:List Int),r_)
 else
 (cO y).bind fun r_1=>
 Option.bind (aC (om y r_1) FUEL (0)) fun o=>match o with
 | .ret v=>some v
 | .brk _=>
 (jC FUEL ([]:List Int) y 49 ([]:List Int) r_1 (List.replicate 48 (0:Int))).bind fun r_3=>
 bif (decide (48<r_3.2.1))then
 some (([]:List Int),4)
 else
 some (r_3.2.2.1,0)
def BK (a:(List Int)) (b:(List Int)):Int→Option (aT Int (Ex Unit Bool)):=
 fun i=>
 bif (decide (i<(a.length:Int)))then
 bU (((0:Int)≤i∧i<(a.length:Int))∧((0:Int)≤i∧i<(b.length:Int))) (
 bif (!decide ((at' a i.toNat)=(at' b i.toNat)))then
 some (.done (.ret false))
 else
 some (.next (IntKind.wrap .i64 (i+1))))
 else
 some (.done (.brk ()))
def rW (a:(List Int)) (b:(List Int)):Option Bool:=
 bif (!decide ((a.length:Int)=(b.length:Int)))then
 some false
 else
 Option.bind (aC (BK a b) FUEL (0)) fun o=>match o with
 | .ret v=>some v
 | .brk _=>
 some true
def lI (a:Int) (b:Int):Option Link:=
 some (⟨a,b,3,500,10,([]:List nJ)⟩:Link)
def gJ:Option xH:=
 (lI 0 2).bind fun r_=>
 (lI 1 3).bind fun r_1=>
 (lI 2 3).bind fun r_2=>
 bU (((0:Int)≤3)∧((1:Int)*3≤281474976710656)∧((3:Int)≤9223372036854775807)∧((0:Int)≤2)∧((1:Int)*2≤281474976710656)∧((2:Int)≤9223372036854775807)∧((0:Int)≤4)∧((1:Int)*4≤281474976710656)∧((4:Int)≤9223372036854775807)) (
 some (⟨(⟨4,[(⟨0,1,500,1,20⟩:Source),(⟨1,1,500,1,20⟩:Source)],[r_,r_1,r_2],[(⟨(⟨2,3⟩:ay),100,2⟩:aN)]⟩:aD),(⟨[true,true,false],(List.replicate 3 (false:Bool)),(List.replicate 3 (false:Bool)),[true,true],(List.replicate 2 (false:Bool)),(List.replicate 4 (false:Bool)),(List.replicate 4 (false:Bool))⟩:State),([]:List Transfer),[(⟨[(⟨3,0⟩:Part)],2,0,10,2,([]:List Int)⟩:eP),(⟨[(⟨3,1⟩:Part)],3,0,10,2,([]:List Int)⟩:eP)],10,false⟩:xH))
def xC (x31:Int) (o_:(List (Int × Bool))) (set:Int) (bool:Bool):Option Bool:=
 (bif gB [(bool,true)]then bC else some default).bind fun r_=>
 bU (gB [(bool,true)]=true→(0:Int)≤x31∧x31<((5:Nat):Int)) (
 some (bif bool then((aV bP (IntKind.wrap .u8 (((BitVec.ofInt (IntKind.bits .u8) set &&& ~~~ BitVec.ofInt (IntKind.bits .u8) (at' [r_.e0,r_.e1,r_.e2,r_.e3,r_.e4] x31.toNat)).toNat:Int))) o_).getD false)else false))
def wE (x1:Int) (o_:(List (Int × Bool))) (set:Int):(Bool × Int)→Option (aT (Bool × Int) (Ex Bool Bool)):=
 fun zz=>match zz with
 |(o0,t4)=>
 bif (decide (t4<5))then
 (fe x1 t4).bind fun r_=>
 bif r_ then
 (xC t4 o_ set o0).bind fun r_1=>
 some (.next (r_1,(IntKind.wrap .i64 (t4+1))))
 else
 some (.next (o0,(IntKind.wrap .i64 (t4+1))))
 else
 some (.done (.brk o0))
def qp (x1:Int) (o_:(List (Int × Bool))) (set:Int) (bool:Bool):Option Bool:=
 Option.bind (aC (wE x1 o_ set) FUEL (bool,0)) fun o=>match o with
 | .ret v=>some v
 | .brk o01=>
 some o01
def nY (x7:Int) (o_:(List Int)):Option (List Int):=
 bU (((o_.length+[x7].length)*8≤140737488355328)∧(o_.length+[x7].length≤4611686018427387904)) (
 some (o_++[x7]))
def vo (x1:Int):((List Int) × Int)→Option (aT ((List Int) × Int) (Ex (List Int) (List Int))):=
 fun zz=>match zz with
 |(o0,t4)=>
 bif (decide (t4<5))then
 (fe x1 t4).bind fun r_=>
 bif r_ then
 (nY t4 o0).bind fun r_1=>
 some (.next (r_1,(IntKind.wrap .i64 (t4+1))))
 else
 some (.next (o0,(IntKind.wrap .i64 (t4+1))))
 else
 some (.done (.brk o0))
def qm (x1:Int) (o_:(List Int)):Option (List Int):=
 Option.bind (aC (vo x1) FUEL (o_,0)) fun o=>match o with
 | .ret v=>some v
 | .brk o01=>
 some o01
def sG (seq:Int):Option (List Int):=
 (qm seq ([]:List Int)).bind fun r_=>
 some r_
def vN (seq:Int):Option (List Int):=
 (sG seq).bind fun r_=>
 some r_
def tZ (x:Int):Option Bool:=
 some (!decide (x=x))
def qa (x:Int) (y:Int):Option Int:=
 (tZ x).bind fun r_=>
 (tZ y).bind fun r_1=>
 bif r_ then
 bif r_1 then
 some 0
 else
 some (-1)
 else
 bif r_1 then
 some 1
 else
 bif (decide (x<y))then
 some (-1)
 else
 bif (decide (y<x))then
 some 1
 else
 some 0
def gU (s1:(List Int)) (s2:(List Int)):Int→Option (aT Int (Ex Unit Int)):=
 fun t11=>
 bif (decide (t11<(s1.length:Int)))then
 bU ((0:Int)≤t11∧t11<(s1.length:Int)) (
 bif (decide ((s2.length:Int)≤t11))then
 some (.done (.ret 1))
 else
 bU ((0:Int)≤t11∧t11<(s2.length:Int)) (
 (qa (at' s1 t11.toNat) (at' s2 t11.toNat)).bind fun r_=>
 bif (!decide (r_=0))then
 some (.done (.ret r_))
 else
 some (.next (IntKind.wrap .i64 (t11+1)))))
 else
 some (.done (.brk ()))
def pW (s1:(List Int)) (s2:(List Int)):Option Int:=
 Option.bind (aC (gU s1 s2) FUEL (0)) fun o=>match o with
 | .ret v=>some v
 | .brk _=>
 bif (decide ((s1.length:Int)<(s2.length:Int)))then
 some (-1)
 else
 some 0
def xq (a:(List Int)) (b:(List Int)):Option Int:=
 bif (!decide ((a.length:Int)=(b.length:Int)))then
 some (IntKind.wrap .i64 ((a.length:Int) - (b.length:Int)))
 else
 (pW a b).bind fun r_=>
 some r_
def dI (s:(List (List Int))):Option (List (List Int)):=bif decide (s.length<4611686018427387904) && (decide s.Nodup && s.all fun x=>decide (x.length≤1000000))then some (s.mergeSort fun x y=> !decide (cmpL y x<0))else none
def uP (y:ah) (r_1:(List (Int × Bool))):((List (List Int)) × Int)→Option (aT ((List (List Int)) × Int) (Ex (List (List Int)) ((List (List Int)) × Int))):=
 fun zz=>match zz with
 |(out,s0)=>
 bU ((0:Int)≤(y.jobs.length:Int)) (
 bif (decide (s0<(IntKind.wrap .u8 ((1:Int)*2 ^ min (y.jobs.length:Int).toNat (IntKind.bits .u8)))))then
 (dQ s0).bind fun r_2=>
 (qp r_2 r_1 s0 (!((aV bP s0 r_1).getD false))).bind fun r_3=>
 bif r_3 then
 (dQ s0).bind fun r_4=>
 (vN r_4).bind fun r_5=>
 bU (((out.length+[r_5].length)*24≤140737488355328)∧(out.length+[r_5].length≤4611686018427387904)) (
 some (.next ((out++[r_5]),(IntKind.wrap .u8 (s0+1)))))
 else
 some (.next (out,(IntKind.wrap .u8 (s0+1))))
 else
 some (.done (.brk out)))
def lX (y:ah):Option ((List (List Int)) × Int):=
 (dS y).bind fun r_=>
 bif (!decide (r_=0))then
 some (([]:List (List Int)),r_)
 else
 (cO y).bind fun r_1=>
 Option.bind (aC (uP y r_1) FUEL (([]:List (List Int)),1)) fun o=>match o with
 | .ret v=>some v
 | .brk out1=>
 (dI out1).bind fun r_6=>
 bU (out1.length=r_6.length) (
 some (r_6,0))
def yu (a:(List Int)) (b:(List Int)):Option Bool:=
 (rW a b).bind fun r_=>
 some r_
def AP (a:(List (List Int))) (b:(List (List Int))):Int→Option (aT Int (Ex Unit Bool)):=
 fun i=>
 bif (decide (i<(a.length:Int)))then
 (yu (at' a i.toNat) (at' b i.toNat)).bind fun r_=>
 bU (((0:Int)≤i∧i<(a.length:Int))∧((0:Int)≤i∧i<(b.length:Int))) (
 bif (!r_)then
 some (.done (.ret false))
 else
 some (.next (IntKind.wrap .i64 (i+1))))
 else
 some (.done (.brk ()))
def qF (a:(List (List Int))) (b:(List (List Int))):Option Bool:=
 bif (!decide ((a.length:Int)=(b.length:Int)))then
 some false
 else
 Option.bind (aC (AP a b) FUEL (0)) fun o=>match o with
 | .ret v=>some v
 | .brk _=>
 some true
def dH (y:ah) (starts:(List Int)) (h_:Int):(Int × Int)→Option (aT (Int × Int) (Ex Int Int)):=
 fun zz=>match zz with
 |(s_,t12)=>
 bif (decide (t12<(starts.length:Int)))then
 bU ((0:Int)≤t12∧t12<(starts.length:Int)) (
 bU (gB [((decide ((at' starts t12.toNat)≤h_)),true)]=true→(0:Int)≤t12∧t12<(y.jobs.length:Int)) (
 bif (bif (decide ((at' starts t12.toNat)≤h_))then(decide (h_<(IntKind.wrap .i64 ((at' starts t12.toNat)+((at' y.jobs t12.toNat).hours)))))else false)then
 (bC).bind fun r_=>
 bU ((0:Int)≤t12∧t12<((5:Nat):Int)) (
 some (.next ((IntKind.wrap .u8 (((BitVec.ofInt (IntKind.bits .u8) s_|||BitVec.ofInt (IntKind.bits .u8) (at' [r_.e0,r_.e1,r_.e2,r_.e3,r_.e4] t12.toNat)).toNat:Int))),(IntKind.wrap .i64 (t12+1)))))
 else
 some (.next (s_,(IntKind.wrap .i64 (t12+1))))))
 else
 some (.done (.brk s_))
def jG (y:ah) (starts:(List Int)) (h_:Int):Option Int:=
 Option.bind (aC (dH y starts h_) FUEL (0,0)) fun o=>match o with
 | .ret v=>some v
 | .brk s_1=>
 some s_1
def mo (y:ah) (starts:(List Int)):Int→Option (aT Int (Ex Unit (Int × Int))):=
 fun t23=>
 bif (decide (t23<(starts.length:Int)))then
 (iF y starts t23).bind fun r_1=>
 bif (!r_1)then
 some (.done (.ret (0,60)))
 else
 some (.next (IntKind.wrap .i64 (t23+1)))
 else
 some (.done (.brk ()))
def mE (y:ah) (starts:(List Int)) (r_2:(List (Int × Bool))) (r_3:Int):Int→Option (aT Int (Ex Unit (Int × Int))):=
 fun t37=>
 bif (decide (t37<r_3))then
 (jG y starts t37).bind fun r_4=>
 bif (!((aV bP r_4 r_2).getD false))then
 some (.done (.ret (t37,120)))
 else
 some (.next (IntKind.wrap .i64 (t37+1)))
 else
 some (.done (.brk ()))
def kM (y:ah) (starts:(List Int)):Option (Int × Int):=
 (dS y).bind fun r_=>
 bif (!decide (r_=0))then
 some (0,r_)
 else
 bif (!decide ((starts.length:Int)=(y.jobs.length:Int)))then
 some (0,1)
 else
 Option.bind (aC (mo y starts) FUEL (0)) fun o=>match o with
 | .ret v=>some v
 | .brk _=>
 (cO y).bind fun r_2=>
 (iU y starts).bind fun r_3=>
 Option.bind (aC (mE y starts r_2 r_3) FUEL (0)) fun o=>match o with
 | .ret v=>some v
 | .brk _=>
 (iU y starts).bind fun r_5=>
 some (r_5,0)
def A8 (y:ah) (jobs:(List Int)):(Int × Int)→Option (aT (Int × Int) (Ex Int (Bool × Int))):=
 fun zz=>match zz with
 |(s_,t17)=>
 bif (decide (t17<(jobs.length:Int)))then
 bU ((0:Int)≤t17∧t17<(jobs.length:Int)) (
 (bif gB [((bif (decide ((at' jobs t17.toNat)<0))then true else(decide ((y.jobs.length:Int)≤(at' jobs t17.toNat)))),false)]then fe s_ (at' jobs t17.toNat)else some default).bind fun r_1=>
 bif (bif (bif (decide ((at' jobs t17.toNat)<0))then true else(decide ((y.jobs.length:Int)≤(at' jobs t17.toNat))))then true else r_1)then
 some (.done (.ret (false,1)))
 else
 (bC).bind fun r_2=>
 bU ((0:Int)≤(at' jobs t17.toNat)∧(at' jobs t17.toNat)<((5:Nat):Int)) (
 some (.next ((IntKind.wrap .u8 (((BitVec.ofInt (IntKind.bits .u8) s_|||BitVec.ofInt (IntKind.bits .u8) (at' [r_2.e0,r_2.e1,r_2.e2,r_2.e3,r_2.e4] ((at' jobs t17.toNat).toNat))).toNat:Int))),(IntKind.wrap .i64 (t17+1))))))
 else
 some (.done (.brk s_))
def qI (y:ah) (jobs:(List Int)):Option (Bool × Int):=
 (dS y).bind fun r_=>
 bif (!decide (r_=0))then
 some (false,r_)
 else
 Option.bind (aC (A8 y jobs) FUEL (0,0)) fun o=>match o with
 | .ret v=>some v
 | .brk s_1=>
 (cO y).bind fun r_3=>
 some (((aV bP s_1 r_3).getD false),0)
def kP:Option Bool:=
 (gJ).bind fun r_=>
 (gX r_).bind fun r_1=>
 (qI r_1 [0,1]).bind fun r_2=>
 (jY r_1).bind fun r_3=>
 (lX r_1).bind fun r_4=>
 (kM r_1 [0,2]).bind fun r_5=>
 bif (bif (bif (bif (bif (bif r_2.1 then true else(!decide (r_2.2=0)))then true else(!decide (r_3.2=0)))then true else(!decide (r_4.2=0)))then true else(!decide (r_5.2=0)))then true else(!decide (r_5.1=5)))then
 some false
 else
 (rW r_3.1 [0,2]).bind fun r_6=>
 bif (!r_6)then
 some false
 else
 (qF r_4.1 [[0,1]]).bind fun r_7=>
 bif (!r_7)then
 some false
 else
 (jY (⟨r_1.plant,r_1.state,r_1.transfers,r_1.jobs,r_1.people,true⟩:ah)).bind fun r_8=>
 (lX (⟨r_1.plant,r_1.state,r_1.transfers,r_1.jobs,r_1.people,true⟩:ah)).bind fun r_9=>
 bif (bif (!decide (r_8.2=4))then true else(!decide (r_9.2=0)))then
 some false
 else
 (qF r_9.1 [[0],[1]]).bind fun r_10=>
 bif (!r_10)then
 some false
 else
 (gJ).bind fun r_11=>
 (gX r_11).bind fun r_12=>
 bif (!decide ((r_12.jobs.length:Int)=2))then
 some false
 else
 bU (((0:Int)≤0∧0<(r_12.jobs.length:Int))∧((0:Int)≤1∧1<(r_12.jobs.length:Int))) (
 (jY (⟨r_12.plant,r_12.state,r_12.transfers,(((r_12.jobs.set 0 (⟨(at' r_12.jobs 0).parts,(at' r_12.jobs 0).hours,(at' r_12.jobs 0).from_,4,(at' r_12.jobs 0).people,(at' r_12.jobs 0).after⟩:eP)).set 1 (⟨(at' (r_12.jobs.set 0 (⟨(at' r_12.jobs 0).parts,(at' r_12.jobs 0).hours,(at' r_12.jobs 0).from_,4,(at' r_12.jobs 0).people,(at' r_12.jobs 0).after⟩:eP)) 1).parts,(at' (r_12.jobs.set 0 (⟨(at' r_12.jobs 0).parts,(at' r_12.jobs 0).hours,(at' r_12.jobs 0).from_,4,(at' r_12.jobs 0).people,(at' r_12.jobs 0).after⟩:eP)) 1).hours,(at' (r_12.jobs.set 0 (⟨(at' r_12.jobs 0).parts,(at' r_12.jobs 0).hours,(at' r_12.jobs 0).from_,4,(at' r_12.jobs 0).people,(at' r_12.jobs 0).after⟩:eP)) 1).from_,4,(at' (r_12.jobs.set 0 (⟨(at' r_12.jobs 0).parts,(at' r_12.jobs 0).hours,(at' r_12.jobs 0).from_,4,(at' r_12.jobs 0).people,(at' r_12.jobs 0).after⟩:eP)) 1).people,(at' (r_12.jobs.set 0 (⟨(at' r_12.jobs 0).parts,(at' r_12.jobs 0).hours,(at' r_12.jobs 0).from_,4,(at' r_12.jobs 0).people,(at' r_12.jobs 0).after⟩:eP)) 1).after⟩:eP)).set 1 (⟨(at' ((r_12.jobs.set 0 (⟨(at' r_12.jobs 0).parts,(at' r_12.jobs 0).hours,(at' r_12.jobs 0).from_,4,(at' r_12.jobs 0).people,(at' r_12.jobs 0).after⟩:eP)).set 1 (⟨(at' (r_12.jobs.set 0 (⟨(at' r_12.jobs 0).parts,(at' r_12.jobs 0).hours,(at' r_12.jobs 0).from_,4,(at' r_12.jobs 0).people,(at' r_12.jobs 0).after⟩:eP)) 1).parts,(at' (r_12.jobs.set 0 (⟨(at' r_12.jobs 0).parts,(at' r_12.jobs 0).hours,(at' r_12.jobs 0).from_,4,(at' r_12.jobs 0).people,(at' r_12.jobs 0).after⟩:eP)) 1).hours,(at' (r_12.jobs.set 0 (⟨(at' r_12.jobs 0).parts,(at' r_12.jobs 0).hours,(at' r_12.jobs 0).from_,4,(at' r_12.jobs 0).people,(at' r_12.jobs 0).after⟩:eP)) 1).from_,4,(at' (r_12.jobs.set 0 (⟨(at' r_12.jobs 0).parts,(at' r_12.jobs 0).hours,(at' r_12.jobs 0).from_,4,(at' r_12.jobs 0).people,(at' r_12.jobs 0).after⟩:eP)) 1).people,(at' (r_12.jobs.set 0 (⟨(at' r_12.jobs 0).parts,(at' r_12.jobs 0).hours,(at' r_12.jobs 0).from_,4,(at' r_12.jobs 0).people,(at' r_12.jobs 0).after⟩:eP)) 1).after⟩:eP)) 1).parts,(at' ((r_12.jobs.set 0 (⟨(at' r_12.jobs 0).parts,(at' r_12.jobs 0).hours,(at' r_12.jobs 0).from_,4,(at' r_12.jobs 0).people,(at' r_12.jobs 0).after⟩:eP)).set 1 (⟨(at' (r_12.jobs.set 0 (⟨(at' r_12.jobs 0).parts,(at' r_12.jobs 0).hours,(at' r_12.jobs 0).from_,4,(at' r_12.jobs 0).people,(at' r_12.jobs 0).after⟩:eP)) 1).parts,(at' (r_12.jobs.set 0 (⟨(at' r_12.jobs 0).parts,(at' r_12.jobs 0).hours,(at' r_12.jobs 0).from_,4,(at' r_12.jobs 0).people,(at' r_12.jobs 0).after⟩:eP)) 1).hours,(at' (r_12.jobs.set 0 (⟨(at' r_12.jobs 0).parts,(at' r_12.jobs 0).hours,(at' r_12.jobs 0).from_,4,(at' r_12.jobs 0).people,(at' r_12.jobs 0).after⟩:eP)) 1).from_,4,(at' (r_12.jobs.set 0 (⟨(at' r_12.jobs 0).parts,(at' r_12.jobs 0).hours,(at' r_12.jobs 0).from_,4,(at' r_12.jobs 0).people,(at' r_12.jobs 0).after⟩:eP)) 1).people,(at' (r_12.jobs.set 0 (⟨(at' r_12.jobs 0).parts,(at' r_12.jobs 0).hours,(at' r_12.jobs 0).from_,4,(at' r_12.jobs 0).people,(at' r_12.jobs 0).after⟩:eP)) 1).after⟩:eP)) 1).hours,(at' ((r_12.jobs.set 0 (⟨(at' r_12.jobs 0).parts,(at' r_12.jobs 0).hours,(at' r_12.jobs 0).from_,4,(at' r_12.jobs 0).people,(at' r_12.jobs 0).after⟩:eP)).set 1 (⟨(at' (r_12.jobs.set 0 (⟨(at' r_12.jobs 0).parts,(at' r_12.jobs 0).hours,(at' r_12.jobs 0).from_,4,(at' r_12.jobs 0).people,(at' r_12.jobs 0).after⟩:eP)) 1).parts,(at' (r_12.jobs.set 0 (⟨(at' r_12.jobs 0).parts,(at' r_12.jobs 0).hours,(at' r_12.jobs 0).from_,4,(at' r_12.jobs 0).people,(at' r_12.jobs 0).after⟩:eP)) 1).hours,(at' (r_12.jobs.set 0 (⟨(at' r_12.jobs 0).parts,(at' r_12.jobs 0).hours,(at' r_12.jobs 0).from_,4,(at' r_12.jobs 0).people,(at' r_12.jobs 0).after⟩:eP)) 1).from_,4,(at' (r_12.jobs.set 0 (⟨(at' r_12.jobs 0).parts,(at' r_12.jobs 0).hours,(at' r_12.jobs 0).from_,4,(at' r_12.jobs 0).people,(at' r_12.jobs 0).after⟩:eP)) 1).people,(at' (r_12.jobs.set 0 (⟨(at' r_12.jobs 0).parts,(at' r_12.jobs 0).hours,(at' r_12.jobs 0).from_,4,(at' r_12.jobs 0).people,(at' r_12.jobs 0).after⟩:eP)) 1).after⟩:eP)) 1).from_,(at' ((r_12.jobs.set 0 (⟨(at' r_12.jobs 0).parts,(at' r_12.jobs 0).hours,(at' r_12.jobs 0).from_,4,(at' r_12.jobs 0).people,(at' r_12.jobs 0).after⟩:eP)).set 1 (⟨(at' (r_12.jobs.set 0 (⟨(at' r_12.jobs 0).parts,(at' r_12.jobs 0).hours,(at' r_12.jobs 0).from_,4,(at' r_12.jobs 0).people,(at' r_12.jobs 0).after⟩:eP)) 1).parts,(at' (r_12.jobs.set 0 (⟨(at' r_12.jobs 0).parts,(at' r_12.jobs 0).hours,(at' r_12.jobs 0).from_,4,(at' r_12.jobs 0).people,(at' r_12.jobs 0).after⟩:eP)) 1).hours,(at' (r_12.jobs.set 0 (⟨(at' r_12.jobs 0).parts,(at' r_12.jobs 0).hours,(at' r_12.jobs 0).from_,4,(at' r_12.jobs 0).people,(at' r_12.jobs 0).after⟩:eP)) 1).from_,4,(at' (r_12.jobs.set 0 (⟨(at' r_12.jobs 0).parts,(at' r_12.jobs 0).hours,(at' r_12.jobs 0).from_,4,(at' r_12.jobs 0).people,(at' r_12.jobs 0).after⟩:eP)) 1).people,(at' (r_12.jobs.set 0 (⟨(at' r_12.jobs 0).parts,(at' r_12.jobs 0).hours,(at' r_12.jobs 0).from_,4,(at' r_12.jobs 0).people,(at' r_12.jobs 0).after⟩:eP)) 1).after⟩:eP)) 1).to_,(at' ((r_12.jobs.set 0 (⟨(at' r_12.jobs 0).parts,(at' r_12.jobs 0).hours,(at' r_12.jobs 0).from_,4,(at' r_12.jobs 0).people,(at' r_12.jobs 0).after⟩:eP)).set 1 (⟨(at' (r_12.jobs.set 0 (⟨(at' r_12.jobs 0).parts,(at' r_12.jobs 0).hours,(at' r_12.jobs 0).from_,4,(at' r_12.jobs 0).people,(at' r_12.jobs 0).after⟩:eP)) 1).parts,(at' (r_12.jobs.set 0 (⟨(at' r_12.jobs 0).parts,(at' r_12.jobs 0).hours,(at' r_12.jobs 0).from_,4,(at' r_12.jobs 0).people,(at' r_12.jobs 0).after⟩:eP)) 1).hours,(at' (r_12.jobs.set 0 (⟨(at' r_12.jobs 0).parts,(at' r_12.jobs 0).hours,(at' r_12.jobs 0).from_,4,(at' r_12.jobs 0).people,(at' r_12.jobs 0).after⟩:eP)) 1).from_,4,(at' (r_12.jobs.set 0 (⟨(at' r_12.jobs 0).parts,(at' r_12.jobs 0).hours,(at' r_12.jobs 0).from_,4,(at' r_12.jobs 0).people,(at' r_12.jobs 0).after⟩:eP)) 1).people,(at' (r_12.jobs.set 0 (⟨(at' r_12.jobs 0).parts,(at' r_12.jobs 0).hours,(at' r_12.jobs 0).from_,4,(at' r_12.jobs 0).people,(at' r_12.jobs 0).after⟩:eP)) 1).after⟩:eP)) 1).people,[0]⟩:eP)),r_12.people,r_12.redundant⟩:ah)).bind fun r_13=>
 some (decide (r_13.2=4)))
def ig (y:ah) (starts:(List Int)):(Int × Int)→Option (aT (Int × Int) (Ex Int Int)):=
 fun zz=>match zz with
 |(n,i)=>
 bif (bif (decide (i<(starts.length:Int)))then(decide (i<(y.jobs.length:Int)))else false)then
 bU (((0:Int)≤i∧i<(starts.length:Int))∧((0:Int)≤i∧i<(y.jobs.length:Int))) (
 some (.next ((if n<(IntKind.wrap .i64 ((at' starts i.toNat)+((at' y.jobs i.toNat).hours)))then(IntKind.wrap .i64 ((at' starts i.toNat)+((at' y.jobs i.toNat).hours)))else n),(IntKind.wrap .i64 (i+1)))))
 else
 some (.done (.brk n))
def kR (y:ah) (starts:(List Int)):Option Int:=
 Option.bind (aC (ig y starts) FUEL (0,0)) fun o=>match o with
 | .ret v=>some v
 | .brk n1=>
 some n1
def kg (a:(List Part)) (b:(List Part)):Int→Option (aT Int (Ex Unit Bool)):=
 fun i=>
 bif (decide (i<(a.length:Int)))then
 bU (((0:Int)≤i∧i<(a.length:Int))∧((0:Int)≤i∧i<(b.length:Int))) (
 bif (!((decide (((at' a i.toNat).kind)=((at' b i.toNat).kind))) && ((decide (((at' a i.toNat).index)=((at' b i.toNat).index))) && true)))then
 some (.done (.ret false))
 else
 some (.next (IntKind.wrap .i64 (i+1))))
 else
 some (.done (.brk ()))
def nu (a:(List Part)) (b:(List Part)):Option Bool:=
 bif (!decide ((a.length:Int)=(b.length:Int)))then
 some false
 else
 Option.bind (aC (kg a b) FUEL (0)) fun o=>match o with
 | .ret v=>some v
 | .brk _=>
 some true
def jU (y:ah) (least:Int) (r_1:((List bG) × Int)):Int→Option (aT Int (Ex Unit Bool)):=
 fun r_2=>
 bif (decide (r_2<(r_1.1.length:Int)))then
 bU (((0:Int)≤r_2∧r_2<(y.plant.racks.length:Int))∧(gB [((decide (least≤((at' y.plant.racks r_2.toNat).paths))),true)]=true→(0:Int)≤r_2∧r_2<(r_1.1.length:Int))∧(gB [((bif (decide (least≤((at' y.plant.racks r_2.toNat).paths)))then(!((at' r_1.1 r_2.toNat).e0))else false),true)]=true→(0:Int)≤r_2∧r_2<(r_1.1.length:Int))) (
 bif (bif (bif (decide (least≤((at' y.plant.racks r_2.toNat).paths)))then(!((at' r_1.1 r_2.toNat).e0))else false)then(!((at' r_1.1 r_2.toNat).e1))else false)then
 some (.done (.ret false))
 else
 some (.next (IntKind.wrap .i64 (r_2+1))))
 else
 some (.done (.brk ()))
def lS (y:ah) (out:(List Part)) (least:Int):Option Bool:=
 (mM y.plant y.state y.transfers out).bind fun r_=>
 (qd y.plant r_.1).bind fun r_1=>
 bif (bif (bif (!decide (r_.2=0))then true else(!decide (r_1.2=0)))then true else(!decide ((r_1.1.length:Int)=(y.plant.racks.length:Int))))then
 some false
 else
 Option.bind (aC (jU y least r_1) FUEL (0)) fun o=>match o with
 | .ret v=>some v
 | .brk _=>
 some true
def iX (out:(List Part)) (i:Int):Int→Option (aT Int (Ex Unit (aT Int (Ex Unit Bool)))):=
 fun kz=>
 bif (decide (kz<i))then
 bU (((0:Int)≤i∧i<(out.length:Int))∧((0:Int)≤kz∧kz<(out.length:Int))) (
 bif ((decide (((at' out i.toNat).kind)=((at' out kz.toNat).kind))) && ((decide (((at' out i.toNat).index)=((at' out kz.toNat).index))) && true))then
 some (.done (.ret (.done (.ret false))))
 else
 some (.next (IntKind.wrap .i64 (kz+1))))
 else
 some (.done (.brk ()))
def iV (out:(List Part)):Int→Option (aT Int (Ex Unit Bool)):=
 fun i=>
 bif (decide (i<(out.length:Int)))then
 Option.bind (aC (iX out i) FUEL (0)) fun o=>match o with
 | .ret v=>some v
 | .brk _=>
 some (.next (IntKind.wrap .i64 (i+1)))
 else
 some (.done (.brk ()))
def dM (y:ah) (out:(List Part)) (r_1:((List Part) × Int)):Int→Option (aT Int (Ex Unit Bool)):=
 fun i1=>
 bif (bif (decide (i1<(r_1.1.length:Int)))then y.redundant else false)then
 bU ((0:Int)≤i1∧i1<(r_1.1.length:Int)) (
 bU ((gB [((decide (((at' r_1.1 i1.toNat).kind)=1)),true)]=true→(0:Int)≤(at' r_1.1 i1.toNat).index∧(at' r_1.1 i1.toNat).index<(y.state.badBus.length:Int))∧(gB [((decide (((at' r_1.1 i1.toNat).kind)=2)),true),((bif (decide (((at' r_1.1 i1.toNat).kind)=1))then(at' y.state.badBus (((at' r_1.1 i1.toNat).index).toNat))else false),false)]=true→(0:Int)≤(at' r_1.1 i1.toNat).index∧(at' r_1.1 i1.toNat).index<(y.state.badSource.length:Int))∧(gB [((decide (((at' r_1.1 i1.toNat).kind)=3)),true),((bif (bif (decide (((at' r_1.1 i1.toNat).kind)=1))then(at' y.state.badBus (((at' r_1.1 i1.toNat).index).toNat))else false)then true else(bif (decide (((at' r_1.1 i1.toNat).kind)=2))then(at' y.state.badSource (((at' r_1.1 i1.toNat).index).toNat))else false)),false)]=true→(0:Int)≤(at' r_1.1 i1.toNat).index∧(at' r_1.1 i1.toNat).index<(y.state.badLink.length:Int))) (
 bif (!(bif (bif (bif (decide (((at' r_1.1 i1.toNat).kind)=1))then(at' y.state.badBus (((at' r_1.1 i1.toNat).index).toNat))else false)then true else(bif (decide (((at' r_1.1 i1.toNat).kind)=2))then(at' y.state.badSource (((at' r_1.1 i1.toNat).index).toNat))else false))then true else(bif (decide (((at' r_1.1 i1.toNat).kind)=3))then(at' y.state.badLink (((at' r_1.1 i1.toNat).index).toNat))else false)))then
 (iW out).bind fun r_2=>
 (lS y (r_2++[(at' r_1.1 i1.toNat)]) 2).bind fun r_3=>
 bU ((gB [(true,true)]=true→(r_2.length+[(at' r_1.1 i1.toNat)].length)*16≤140737488355328)∧(gB [(true,true)]=true→r_2.length+[(at' r_1.1 i1.toNat)].length≤4611686018427387904)) (
 bif (!r_3)then
 some (.done (.ret false))
 else
 some (.next (IntKind.wrap .i64 (i1+1))))
 else
 some (.next (IntKind.wrap .i64 (i1+1)))))
 else
 some (.done (.brk ()))
def qV (y:ah) (out:(List Part)):Option Bool:=
 Option.bind (aC (iV out) FUEL (0)) fun o=>match o with
 | .ret v=>some v
 | .brk _=>
 (lS y out 1).bind fun r_=>
 bif (!r_)then
 some false
 else
 (mY y.plant).bind fun r_1=>
 bif (!decide (r_1.2=0))then
 some false
 else
 Option.bind (aC (dM y out r_1) FUEL (0)) fun o=>match o with
 | .ret v=>some v
 | .brk _=>
 some true
def ic (y:ah) (starts:(List Int)) (i:Int):Int→Option (aT Int (Ex Unit (aT Int (Ex Unit Bool)))):=
 fun kz=>
 bif (decide (kz<(((at' y.jobs i.toNat).after).length:Int)))then
 bU (((0:Int)≤kz∧kz<(((at' y.jobs i.toNat).after).length:Int))∧(gB [((decide (i≤(at' ((at' y.jobs i.toNat).after) kz.toNat))),false)]=true→(0:Int)≤kz∧kz<(((at' y.jobs i.toNat).after).length:Int))∧(gB [((decide (i≤(at' ((at' y.jobs i.toNat).after) kz.toNat))),false)]=true→(0:Int)≤(at' ((at' y.jobs i.toNat).after) kz.toNat)∧(at' ((at' y.jobs i.toNat).after) kz.toNat)<(starts.length:Int))∧(gB [((decide (i≤(at' ((at' y.jobs i.toNat).after) kz.toNat))),false)]=true→(0:Int)≤(at' ((at' y.jobs i.toNat).after) kz.toNat)∧(at' ((at' y.jobs i.toNat).after) kz.toNat)<(y.jobs.length:Int))∧(gB [((decide (i≤(at' ((at' y.jobs i.toNat).after) kz.toNat))),false)]=true→(0:Int)≤i∧i<(starts.length:Int))) (
 bif (bif (decide (i≤(at' ((at' y.jobs i.toNat).after) kz.toNat)))then true else(decide ((at' starts i.toNat)<(IntKind.wrap .i64 ((at' starts ((at' ((at' y.jobs i.toNat).after) kz.toNat).toNat))+((at' y.jobs ((at' ((at' y.jobs i.toNat).after) kz.toNat).toNat)).hours))))))then
 some (.done (.ret (.done (.ret false))))
 else
 some (.next (IntKind.wrap .i64 (kz+1))))
 else
 some (.done (.brk ()))
def jK (y:ah) (starts:(List Int)):Int→Option (aT Int (Ex Unit Bool)):=
 fun i=>
 bif (decide (i<(starts.length:Int)))then
 bU ((0:Int)≤i∧i<(y.jobs.length:Int)) (
 bU (((0:Int)≤i∧i<(starts.length:Int))∧(gB [((decide ((at' starts i.toNat)<((at' y.jobs i.toNat).from_))),false)]=true→(0:Int)≤i∧i<(starts.length:Int))) (
 bif (bif (decide ((at' starts i.toNat)<((at' y.jobs i.toNat).from_)))then true else(decide (((at' y.jobs i.toNat).to_)<(IntKind.wrap .i64 ((at' starts i.toNat)+((at' y.jobs i.toNat).hours))))))then
 some (.done (.ret false))
 else
 Option.bind (aC (ic y starts i) FUEL (0)) fun o=>match o with
 | .ret v=>some v
 | .brk _=>
 some (.next (IntKind.wrap .i64 (i+1)))))
 else
 some (.done (.brk ()))
def jL (y:ah) (starts:(List Int)) (h_:Int):(Int × (List Part) × Int)→Option (aT (Int × (List Part) × Int) (Ex (Int × (List Part)) (aT (Int × (List Part) × Int) (Ex Unit Bool)))):=
 fun zz=>match zz with
 |(people,out,i1)=>
 bif (decide (i1<(starts.length:Int)))then
 bU (((0:Int)≤i1∧i1<(starts.length:Int))∧(gB [((decide ((at' starts i1.toNat)≤h_)),true)]=true→(0:Int)≤i1∧i1<(starts.length:Int))∧(gB [((decide ((at' starts i1.toNat)≤h_)),true)]=true→(0:Int)≤i1∧i1<(y.jobs.length:Int))) (
 bif (bif (decide ((at' starts i1.toNat)≤h_))then(decide (h_<(IntKind.wrap .i64 ((at' starts i1.toNat)+((at' y.jobs i1.toNat).hours)))))else false)then
 bU ((0:Int)≤i1∧i1<(y.jobs.length:Int)) (
 bU (((0:Int)≤i1∧i1<(y.jobs.length:Int))∧((out.length+((at' y.jobs i1.toNat).parts).length)*16≤140737488355328)∧(out.length+((at' y.jobs i1.toNat).parts).length≤4611686018427387904)) (
 some (.next ((IntKind.wrap .i64 (people+((at' y.jobs i1.toNat).people))),(out++((at' y.jobs i1.toNat).parts)),(IntKind.wrap .i64 (i1+1))))))
 else
 some (.next (people,out,(IntKind.wrap .i64 (i1+1)))))
 else
 some (.done (.brk (people,out)))
def iw (y:ah) (starts:(List Int)):(Int × (List Part) × Int)→Option (aT (Int × (List Part) × Int) (Ex Unit Bool)):=
 fun zz=>match zz with
 |(y13,last,h_)=>
 (kR (⟨y.plant,y.state,y.transfers,y.jobs,y13,y.redundant⟩:ah) starts).bind fun r_=>
 bif (decide (h_<r_))then
 Option.bind (aC (jL y starts h_) FUEL (0,([]:List Part),0)) fun o=>match o with
 | .ret v=>some v
 | .brk (people1,out1)=>
 bif (decide (y13<people1))then
 some (.done (.ret false))
 else
 (bif gB [((decide ((out1.length:Int)=0)),false)]then nu out1 last else some default).bind fun r_1=>
 bif (bif (decide ((out1.length:Int)=0))then true else r_1)then
 some (.next (y13,last,(IntKind.wrap .i64 (h_+1))))
 else
 (qV (⟨y.plant,y.state,y.transfers,y.jobs,y13,y.redundant⟩:ah) out1).bind fun r_2=>
 bif (!r_2)then
 some (.done (.ret false))
 else
 some (.next (y13,out1,(IntKind.wrap .i64 (h_+1))))
 else
 some (.done (.brk ()))
def mV (y:ah) (starts:(List Int)):Option Bool:=
 bif (!decide ((starts.length:Int)=(y.jobs.length:Int)))then
 some false
 else
 Option.bind (aC (jK y starts) FUEL (0)) fun o=>match o with
 | .ret v=>some v
 | .brk _=>
 Option.bind (aC (iw y starts) FUEL (y.people,([]:List Part),0)) fun o=>match o with
 | .ret v=>some v
 | .brk _=>
 some true
def lu (y:xH) (starts:(List Int)):Option Bool:=
 bif (bif (bif (bif (bif (bif (decide (60<(y.plant.sources.length:Int)))then true else(decide (60<(y.plant.links.length:Int))))then true else(decide (60<(y.plant.racks.length:Int))))then true else(decide (20<(y.transfers.length:Int))))then true else(decide (8<(y.jobs.length:Int))))then true else(decide (20<(starts.length:Int))))then
 (kP).bind fun r_=>
 some r_
 else
 (gX y).bind fun r_1=>
 (dS r_1).bind fun r_2=>
 bif (bif (!decide (r_2=0))then true else(decide (5<(r_1.jobs.length:Int))))then
 (kP).bind fun r_3=>
 some r_3
 else
 (jY r_1).bind fun r_4=>
 (bif gB [((decide (r_4.2=0)),true)]then mV r_1 r_4.1 else some default).bind fun r_5=>
 bif (bif (bif (decide (r_4.2=0))then(!r_5)else false)then true else(bif (!decide (r_4.2=0))then(bif (!decide (r_4.2=4))then true else(!decide ((r_4.1.length:Int)=0)))else false))then
 some false
 else
 (kM r_1 starts).bind fun r_6=>
 (bif gB [((!decide (r_4.2=0)),false),((decide (r_6.2=0)),true)]then mV r_1 starts else some default).bind fun r_7=>
 (bif gB [((bif (!decide (r_4.2=0))then true else(!r_7)),false),((decide (r_6.2=0)),true)]then kR r_1 starts else some default).bind fun r_8=>
 (bif gB [((bif (!decide (r_4.2=0))then true else(!r_7)),false),((decide (r_6.2=0)),true)]then kR r_1 r_4.1 else some default).bind fun r_9=>
 bif (bif (decide (r_6.2=0))then(bif (bif (!decide (r_4.2=0))then true else(!r_7))then true else(decide (r_8<r_9)))else false)then
 some false
 else
 (kP).bind fun r_10=>
 some r_10
end Sg
