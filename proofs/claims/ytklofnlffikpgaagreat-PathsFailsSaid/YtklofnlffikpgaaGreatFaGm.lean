import Derived.Test.YtklofnlffikpgaaGreatFaLd
set_option linter.all false
namespace Sg
open Go
structure Source where
 bus:Int
 kind:Int
 power:Int
 sync:Int
 ohm:Int
instance:Inhabited Source:=⟨⟨default,default,default,default,default⟩⟩
def Source.cell (x:Source):Nat→DV
 |0=>(.int .i64 x.bus)
 |1=>(.int .i64 x.kind)
 |2=>(.int .i64 x.power)
 |3=>(.int .i64 x.sync)
 |4=>(.int .i64 x.ohm)
 |_=> .nilp
structure vH where
 amps:Int
 millis:Int
instance:Inhabited vH:=⟨⟨default,default⟩⟩
def vH.cell (x:vH):Nat→DV
 |0=>(.int .i64 x.amps)
 |1=>(.int .i64 x.millis)
 |_=> .nilp
structure Link where
 a:Int
 b:Int
 kind:Int
 most:Int
 ohm:Int
 trip:(List vH)
instance:Inhabited Link:=⟨⟨default,default,default,default,default,default⟩⟩
def Link.cell (x:Link):Nat→DV
 |0=>(.int .i64 x.a)
 |1=>(.int .i64 x.b)
 |2=>(.int .i64 x.kind)
 |3=>(.int .i64 x.most)
 |4=>(.int .i64 x.ohm)
 |5=>(aR none 2 vH.cell x.trip)
 |_=> .nilp
structure ah where
 e0:Int
 e1:Int
instance:Inhabited ah:=⟨⟨default,default⟩⟩
def ah.cell (x:ah):Nat→DV
 |0=>(.int .i64 x.e0)
 |1=>(.int .i64 x.e1)
 |_=> .nilp
structure aT where
 feeds:ah
 power:Int
 paths:Int
instance:Inhabited aT:=⟨⟨default,default,default⟩⟩
def aT.cell (x:aT):Nat→DV
 |0=>(.int .i64 x.feeds.e0)
 |1=>(.int .i64 x.feeds.e1)
 |2=>(.int .i64 x.power)
 |3=>(.int .i64 x.paths)
 |_=> .nilp
structure ai where
 buses:Int
 sources:(List Source)
 links:(List Link)
 racks:(List aT)
instance:Inhabited ai:=⟨⟨default,default,default,default⟩⟩
def ai.cell (x:ai):Nat→DV
 |0=>(.int .i64 x.buses)
 |1=>(aR none 5 Source.cell x.sources)
 |2=>(aR none 6 Link.cell x.links)
 |3=>(aR none 4 aT.cell x.racks)
 |_=> .nilp
structure State where
 closed:(List Bool)
 locked:(List Bool)
 badLink:(List Bool)
 on_:(List Bool)
 badSource:(List Bool)
 earthed:(List Bool)
 badBus:(List Bool)
instance:Inhabited State:=⟨⟨default,default,default,default,default,default,default⟩⟩
def State.cell (x:State):Nat→DV
 |0=>(aR none 1 af x.closed)
 |1=>(aR none 1 af x.locked)
 |2=>(aR none 1 af x.badLink)
 |3=>(aR none 1 af x.on_)
 |4=>(aR none 1 af x.badSource)
 |5=>(aR none 1 af x.earthed)
 |6=>(aR none 1 af x.badBus)
 |_=> .nilp
structure bW where
 l:(List Bool)
 n:Int
instance:Inhabited bW:=⟨⟨default,default⟩⟩
def bW.cell (x:bW):Nat→DV
 |0=>(aR none 1 af x.l)
 |1=>(.int .i64 x.n)
 |_=> .nilp
structure Transfer where
 watch:Int
 open_:Int
 close:Int
instance:Inhabited Transfer:=⟨⟨default,default,default⟩⟩
def Transfer.cell (x:Transfer):Nat→DV
 |0=>(.int .i64 x.watch)
 |1=>(.int .i64 x.open_)
 |2=>(.int .i64 x.close)
 |_=> .nilp
structure bB where
 head:(List (Int × Int))
instance:Inhabited bB:=⟨⟨default⟩⟩
def bB.cell (x:bB):Nat→DV
 |0=> .nilp
 |_=> .nilp
structure aH where
 buses:(List Int)
 sources:(List Int)
instance:Inhabited aH:=⟨⟨default,default⟩⟩
def aH.cell (x:aH):Nat→DV
 |0=>(aR none 1 (aG .i64) x.buses)
 |1=>(aR none 1 (aG .i64) x.sources)
 |_=> .nilp
structure Part where
 kind:Int
 index:Int
instance:Inhabited Part:=⟨⟨default,default⟩⟩
def Part.cell (x:Part):Nat→DV
 |0=>(.int .i64 x.kind)
 |1=>(.int .i64 x.index)
 |_=> .nilp
structure aF where
 e0:(List (Int × (List Int)))
 e1:(List (Int × (List Int)))
instance:Inhabited aF:=⟨⟨default,default⟩⟩
def aF.cell (x:aF):Nat→DV
 |0=> .nilp
 |1=> .nilp
 |_=> .nilp
structure Graph where
 parts:(List Part)
 arcs:aF
instance:Inhabited Graph:=⟨⟨default,default⟩⟩
def Graph.cell (x:Graph):Nat→DV
 |0=>(aR none 2 Part.cell x.parts)
 |1=> .nilp
 |2=> .nilp
 |_=> .nilp
structure aN where
 e0:Bool
 e1:Bool
instance:Inhabited aN:=⟨⟨default,default⟩⟩
def aN.cell (x:aN):Nat→DV
 |0=>(.bool x.e0)
 |1=>(.bool x.e1)
 |_=> .nilp
structure aI where
 rack:Int
 part:Part
instance:Inhabited aI:=⟨⟨default,default⟩⟩
def aI.cell (x:aI):Nat→DV
 |0=>(.int .i64 x.rack)
 |1=>(.int .i64 x.part.kind)
 |2=>(.int .i64 x.part.index)
 |_=> .nilp
def aH.ev (x:aH):Nat→EV
 |0=> .row 3 1 x.buses.length (aj (aG .i64) x.buses)
 |1=> .row 3 1 x.sources.length (aj (aG .i64) x.sources)
 |_=> .d .nilp
def aP (n:Int) (first:Int) (last:Int):Option Bool:=
 some (bif (decide (first≤n))then(decide (n≤last))else false)
def sZ (p:ai):Option (Int × (List Source) × (List Link) × (List aT)):=
 some (p.buses,p.sources,p.links,p.racks)
def xC (p:ai):Option (Int × (List Source) × (List Link) × (List aT)):=
 some (p.buses,p.sources,p.links,p.racks)
def wQ (p:ai):Option (Int × (List Source) × (List Link) × (List aT)):=
 some (p.buses,p.sources,p.links,p.racks)
def mY (x:Source) (x1:Int) (x11:(List Source)) (x12:(List Link)) (x13:(List aT)):Option Bool:=
 (aP x.bus 0 (IntKind.wrap .i64 (x1 - 1))).bind fun r_=>
 (bif gB [(r_,true)]then aP x.kind 1 3 else some default).bind fun r_1=>
 (bif gB [((bif r_ then r_1 else false),true)]then aP x.power 1 100000 else some default).bind fun r_2=>
 (bif gB [((bif (bif r_ then r_1 else false)then r_2 else false),true)]then aP x.sync 0 8 else some default).bind fun r_3=>
 (bif gB [((bif (bif (bif r_ then r_1 else false)then r_2 else false)then r_3 else false),true)]then aP x.ohm 10 100000 else some default).bind fun r_4=>
 some (bif (bif (bif (bif r_ then r_1 else false)then r_2 else false)then r_3 else false)then r_4 else false)
def uD (x:Source) (x1:Int) (x11:(List Source)) (x12:(List Link)) (x13:(List aT)):Option Bool:=
 (mY x x1 x11 x12 x13).bind fun r_=>
 some (!r_)
def kY (s_:(List Source)) (f_:Int) (f_1:(List Source)) (f_2:(List Link)) (f_3:(List aT)):Int→Option (aS Int (Ex Unit Int)):=
 fun t8=>
 bif (decide (t8<(s_.length:Int)))then
 (uD (at' s_ t8.toNat) f_ f_1 f_2 f_3).bind fun r_=>
 bI ((0:Int)≤t8∧t8<(s_.length:Int)) (
 bif r_ then
 some (.done (.ret t8))
 else
 some (.next (IntKind.wrap .i64 (t8+1))))
 else
 some (.done (.brk ()))
def nW (s_:(List Source)) (f_:Int) (f_1:(List Source)) (f_2:(List Link)) (f_3:(List aT)):Option Int:=
 Option.bind (aA (kY s_ f_ f_1 f_2 f_3) FUEL (0)) fun o=>match o with
 | .ret v=>some v
 | .brk _=>
 some (-1)
def iB (s_:(List Source)) (f_:Int) (f_1:(List Source)) (f_2:(List Link)) (f_3:(List aT)):Option Bool:=
 (nW s_ f_ f_1 f_2 f_3).bind fun r_=>
 some (decide (0≤r_))
def rE (l:(List Source)) (most:Int) (right:Int) (right1:(List Source)) (right2:(List Link)) (right3:(List aT)):Option Bool:=
 (bif gB [((decide ((l.length:Int)≤most)),true)]then iB l right right1 right2 right3 else some default).bind fun r_=>
 some (bif (decide ((l.length:Int)≤most))then(!r_)else false)
def lD (x:Link):Int→Option (aS Int (Ex Unit Bool)):=
 fun t50=>
 bif (decide (t50<(x.trip.length:Int)))then
 bI ((0:Int)≤t50∧t50<(x.trip.length:Int)) (
 (aP ((at' x.trip t50.toNat).amps) 1 1000000).bind fun r_5=>
 (bif gB [((!r_5),false)]then aP ((at' x.trip t50.toNat).millis) 1 100000 else some default).bind fun r_6=>
 bI ((gB [((decide (0<t50)),true),((bif (!r_5)then true else(!r_6)),false)]=true→(0:Int)≤(IntKind.wrap .i64 (t50 - 1))∧(IntKind.wrap .i64 (t50 - 1))<(x.trip.length:Int))∧(gB [((decide (((at' x.trip t50.toNat).amps)≤((at' x.trip ((IntKind.wrap .i64 (t50 - 1)).toNat)).amps))),false),((decide (0<t50)),true),((bif (!r_5)then true else(!r_6)),false)]=true→(0:Int)≤(IntKind.wrap .i64 (t50 - 1))∧(IntKind.wrap .i64 (t50 - 1))<(x.trip.length:Int))) (
 bif (bif (bif (!r_5)then true else(!r_6))then true else(bif (decide (0<t50))then(bif (decide (((at' x.trip t50.toNat).amps)≤((at' x.trip ((IntKind.wrap .i64 (t50 - 1)).toNat)).amps)))then true else(decide (((at' x.trip ((IntKind.wrap .i64 (t50 - 1)).toNat)).millis)≤((at' x.trip t50.toNat).millis))))else false))then
 some (.done (.ret false))
 else
 some (.next (IntKind.wrap .i64 (t50+1)))))
 else
 some (.done (.brk ()))
def oL (x:Link) (x1:Int) (x11:(List Source)) (x12:(List Link)) (x13:(List aT)):Option Bool:=
 (aP x.a 0 (IntKind.wrap .i64 (x1 - 1))).bind fun r_=>
 (bif gB [((!r_),false)]then aP x.b 0 (IntKind.wrap .i64 (x1 - 1))else some default).bind fun r_1=>
 (bif gB [((bif (bif (!r_)then true else(!r_1))then true else(decide (x.a=x.b))),false)]then aP x.kind 1 3 else some default).bind fun r_2=>
 (bif gB [((bif (bif (bif (!r_)then true else(!r_1))then true else(decide (x.a=x.b)))then true else(!r_2)),false)]then aP x.most 1 100000 else some default).bind fun r_3=>
 (bif gB [((bif (bif (bif (bif (!r_)then true else(!r_1))then true else(decide (x.a=x.b)))then true else(!r_2))then true else(!r_3)),false)]then aP x.ohm 10 100000 else some default).bind fun r_4=>
 bif (bif (bif (bif (bif (bif (!r_)then true else(!r_1))then true else(decide (x.a=x.b)))then true else(!r_2))then true else(!r_3))then true else(!r_4))then
 some false
 else
 Option.bind (aA (lD x) FUEL (0)) fun o=>match o with
 | .ret v=>some v
 | .brk _=>
 some (bif (decide ((x.trip.length:Int)≤6))then(bif (decide ((x.trip.length:Int)=0))then true else(decide (x.kind=3)))else false)
def pF (x:Link) (x1:Int) (x11:(List Source)) (x12:(List Link)) (x13:(List aT)):Option Bool:=
 (oL x x1 x11 x12 x13).bind fun r_=>
 some (!r_)
def je (s_:(List Link)) (f_:Int) (f_1:(List Source)) (f_2:(List Link)) (f_3:(List aT)):Int→Option (aS Int (Ex Unit Int)):=
 fun t8=>
 bif (decide (t8<(s_.length:Int)))then
 (pF (at' s_ t8.toNat) f_ f_1 f_2 f_3).bind fun r_=>
 bI ((0:Int)≤t8∧t8<(s_.length:Int)) (
 bif r_ then
 some (.done (.ret t8))
 else
 some (.next (IntKind.wrap .i64 (t8+1))))
 else
 some (.done (.brk ()))
def kW (s_:(List Link)) (f_:Int) (f_1:(List Source)) (f_2:(List Link)) (f_3:(List aT)):Option Int:=
 Option.bind (aA (je s_ f_ f_1 f_2 f_3) FUEL (0)) fun o=>match o with
 | .ret v=>some v
 | .brk _=>
 some (-1)
def fw (s_:(List Link)) (f_:Int) (f_1:(List Source)) (f_2:(List Link)) (f_3:(List aT)):Option Bool:=
 (kW s_ f_ f_1 f_2 f_3).bind fun r_=>
 some (decide (0≤r_))
def oP (l:(List Link)) (most:Int) (right:Int) (right1:(List Source)) (right2:(List Link)) (right3:(List aT)):Option Bool:=
 (bif gB [((decide ((l.length:Int)≤most)),true)]then fw l right right1 right2 right3 else some default).bind fun r_=>
 some (bif (decide ((l.length:Int)≤most))then(!r_)else false)
def qy (x:aT):Option Int:=
 bif (decide (x.feeds.e1=(-1)))then
 some 1
 else
 some 2
def oZ (x:aT) (x1:Int) (x11:(List Source)) (x12:(List Link)) (x13:(List aT)):Option Bool:=
 (aP x.feeds.e0 0 (IntKind.wrap .i64 (x1 - 1))).bind fun r_=>
 (bif gB [(r_,true)]then aP x.feeds.e1 (-1) (IntKind.wrap .i64 (x1 - 1))else some default).bind fun r_1=>
 (bif gB [((bif (bif r_ then r_1 else false)then(!decide (x.feeds.e0=x.feeds.e1))else false),true)]then aP x.power 1 100000 else some default).bind fun r_2=>
 (bif gB [((bif (bif (bif r_ then r_1 else false)then(!decide (x.feeds.e0=x.feeds.e1))else false)then r_2 else false),true)]then qy x else some default).bind fun r_3=>
 (bif gB [((bif (bif (bif r_ then r_1 else false)then(!decide (x.feeds.e0=x.feeds.e1))else false)then r_2 else false),true)]then aP x.paths 0 r_3 else some default).bind fun r_4=>
 some (bif (bif (bif (bif r_ then r_1 else false)then(!decide (x.feeds.e0=x.feeds.e1))else false)then r_2 else false)then r_4 else false)
def pq (x:aT) (x1:Int) (x11:(List Source)) (x12:(List Link)) (x13:(List aT)):Option Bool:=
 (oZ x x1 x11 x12 x13).bind fun r_=>
 some (!r_)
def jd (s_:(List aT)) (f_:Int) (f_1:(List Source)) (f_2:(List Link)) (f_3:(List aT)):Int→Option (aS Int (Ex Unit Int)):=
 fun t8=>
 bif (decide (t8<(s_.length:Int)))then
 (pq (⟨((at' s_ t8.toNat).feeds),(at' s_ t8.toNat).power,(at' s_ t8.toNat).paths⟩:aT) f_ f_1 f_2 f_3).bind fun r_=>
 bI ((0:Int)≤t8∧t8<(s_.length:Int)) (
 bif r_ then
 some (.done (.ret t8))
 else
 some (.next (IntKind.wrap .i64 (t8+1))))
 else
 some (.done (.brk ()))
def kV (s_:(List aT)) (f_:Int) (f_1:(List Source)) (f_2:(List Link)) (f_3:(List aT)):Option Int:=
 Option.bind (aA (jd s_ f_ f_1 f_2 f_3) FUEL (0)) fun o=>match o with
 | .ret v=>some v
 | .brk _=>
 some (-1)
def fC (s_:(List aT)) (f_:Int) (f_1:(List Source)) (f_2:(List Link)) (f_3:(List aT)):Option Bool:=
 (kV s_ f_ f_1 f_2 f_3).bind fun r_=>
 some (decide (0≤r_))
def pG (l:(List aT)) (most:Int) (right:Int) (right1:(List Source)) (right2:(List Link)) (right3:(List aT)):Option Bool:=
 (bif gB [((decide ((l.length:Int)≤most)),true)]then fC l right right1 right2 right3 else some default).bind fun r_=>
 some (bif (decide ((l.length:Int)≤most))then(!r_)else false)
def nO (p:ai):Option Int:=
 (aP p.buses 1 24).bind fun r_=>
 bif (!r_)then
 some 10
 else
 (sZ p).bind fun r_1=>
 (rE p.sources 8 r_1.1 r_1.2.1 r_1.2.2.1 r_1.2.2.2).bind fun r_2=>
 bif (!r_2)then
 some 11
 else
 (xC p).bind fun r_3=>
 (oP p.links 40 r_3.1 r_3.2.1 r_3.2.2.1 r_3.2.2.2).bind fun r_4=>
 bif (!r_4)then
 some 12
 else
 (wQ p).bind fun r_5=>
 (pG p.racks 24 r_5.1 r_5.2.1 r_5.2.2.1 r_5.2.2.2).bind fun r_6=>
 bif (!r_6)then
 some 13
 else
 some 0
def iE (p:ai) (s_:State):Int→Option (aS Int (Ex Unit Int)):=
 fun t55=>
 bif (decide (t55<([(⟨s_.closed,(p.links.length:Int)⟩:bW),(⟨s_.locked,(p.links.length:Int)⟩:bW),(⟨s_.badLink,(p.links.length:Int)⟩:bW),(⟨s_.on_,(p.sources.length:Int)⟩:bW),(⟨s_.badSource,(p.sources.length:Int)⟩:bW),(⟨s_.earthed,p.buses⟩:bW),(⟨s_.badBus,p.buses⟩:bW)].length:Int)))then
 bI ((0:Int)≤t55∧t55<([(⟨s_.closed,(p.links.length:Int)⟩:bW),(⟨s_.locked,(p.links.length:Int)⟩:bW),(⟨s_.badLink,(p.links.length:Int)⟩:bW),(⟨s_.on_,(p.sources.length:Int)⟩:bW),(⟨s_.badSource,(p.sources.length:Int)⟩:bW),(⟨s_.earthed,p.buses⟩:bW),(⟨s_.badBus,p.buses⟩:bW)].length:Int)) (
 bif (!decide ((((at' [(⟨s_.closed,(p.links.length:Int)⟩:bW),(⟨s_.locked,(p.links.length:Int)⟩:bW),(⟨s_.badLink,(p.links.length:Int)⟩:bW),(⟨s_.on_,(p.sources.length:Int)⟩:bW),(⟨s_.badSource,(p.sources.length:Int)⟩:bW),(⟨s_.earthed,p.buses⟩:bW),(⟨s_.badBus,p.buses⟩:bW)] t55.toNat).l).length:Int)=((at' [(⟨s_.closed,(p.links.length:Int)⟩:bW),(⟨s_.locked,(p.links.length:Int)⟩:bW),(⟨s_.badLink,(p.links.length:Int)⟩:bW),(⟨s_.on_,(p.sources.length:Int)⟩:bW),(⟨s_.badSource,(p.sources.length:Int)⟩:bW),(⟨s_.earthed,p.buses⟩:bW),(⟨s_.badBus,p.buses⟩:bW)] t55.toNat).n)))then
 some (.done (.ret 9))
 else
 some (.next (IntKind.wrap .i64 (t55+1))))
 else
 some (.done (.brk ()))
def iF (p:ai) (s_:State):Int→Option (aS Int (Ex Unit Int)):=
 fun t69=>
 bif (decide (t69<(p.links.length:Int)))then
 bI ((0:Int)≤t69∧t69<(p.links.length:Int)) (
 bI ((gB [((decide (((at' p.links t69.toNat).kind)=1)),true)]=true→(0:Int)≤t69∧t69<(s_.closed.length:Int))∧(gB [((!(at' s_.closed t69.toNat)),false),((decide (((at' p.links t69.toNat).kind)=1)),true)]=true→(0:Int)≤t69∧t69<(s_.locked.length:Int))) (
 bif (bif (decide (((at' p.links t69.toNat).kind)=1))then(bif (!(at' s_.closed t69.toNat))then true else(at' s_.locked t69.toNat))else false)then
 some (.done (.ret 9))
 else
 some (.next (IntKind.wrap .i64 (t69+1)))))
 else
 some (.done (.brk ()))
def dz (p:ai) (s_:State):Option Int:=
 (nO p).bind fun r_=>
 bif (!decide (r_=0))then
 some r_
 else
 Option.bind (aA (iE p s_) FUEL (0)) fun o=>match o with
 | .ret v=>some v
 | .brk _=>
 Option.bind (aA (iF p s_) FUEL (0)) fun o=>match o with
 | .ret v=>some v
 | .brk _=>
 some 0
def eD (i:Int) (x1:Int) (x11:(List Source)) (x12:(List Link)) (x13:(List aT)):Option Bool:=
 bI (gB [((bif (decide (0≤i))then(decide (i<(x12.length:Int)))else false),true)]=true→(0:Int)≤i∧i<(x12.length:Int)) (
 some (bif (bif (decide (0≤i))then(decide (i<(x12.length:Int)))else false)then(!decide (((at' x12 i.toNat).kind)=1))else false))
def fI (x:Transfer) (x1:Int) (x11:(List Source)) (x12:(List Link)) (x13:(List aT)) (x2:Int) (x21:(List Source)) (x22:(List Link)) (x23:(List aT)):Option Bool:=
 (bif gB [((bif (decide (x.watch<0))then true else(decide (x1≤x.watch))),false)]then eD x.close x2 x21 x22 x23 else some default).bind fun r_=>
 (bif gB [((!decide (x.open_=(-1))),true),((bif (bif (decide (x.watch<0))then true else(decide (x1≤x.watch)))then true else(!r_)),false)]then eD x.open_ x2 x21 x22 x23 else some default).bind fun r_1=>
 some (bif (bif (bif (decide (x.watch<0))then true else(decide (x1≤x.watch)))then true else(!r_))then true else(bif (!decide (x.open_=(-1)))then(bif (!r_1)then true else(decide (x.open_=x.close)))else false))
def iZ (s_:(List Transfer)) (f_:Int) (f_1:(List Source)) (f_2:(List Link)) (f_3:(List aT)) (f_4:Int) (f_5:(List Source)) (f_6:(List Link)) (f_7:(List aT)):Int→Option (aS Int (Ex Unit Int)):=
 fun t8=>
 bif (decide (t8<(s_.length:Int)))then
 (fI (at' s_ t8.toNat) f_ f_1 f_2 f_3 f_4 f_5 f_6 f_7).bind fun r_=>
 bI ((0:Int)≤t8∧t8<(s_.length:Int)) (
 bif r_ then
 some (.done (.ret t8))
 else
 some (.next (IntKind.wrap .i64 (t8+1))))
 else
 some (.done (.brk ()))
def kT (s_:(List Transfer)) (f_:Int) (f_1:(List Source)) (f_2:(List Link)) (f_3:(List aT)) (f_4:Int) (f_5:(List Source)) (f_6:(List Link)) (f_7:(List aT)):Option Int:=
 Option.bind (aA (iZ s_ f_ f_1 f_2 f_3 f_4 f_5 f_6 f_7) FUEL (0)) fun o=>match o with
 | .ret v=>some v
 | .brk _=>
 some (-1)
def fG (s_:(List Transfer)) (f_:Int) (f_1:(List Source)) (f_2:(List Link)) (f_3:(List aT)) (f_4:Int) (f_5:(List Source)) (f_6:(List Link)) (f_7:(List aT)):Option Bool:=
 (kT s_ f_ f_1 f_2 f_3 f_4 f_5 f_6 f_7).bind fun r_=>
 some (decide (0≤r_))
def cZ (p:ai) (s_:State) (l:(List Transfer)):Option Int:=
 (dz p s_).bind fun r_=>
 bif (!decide (r_=0))then
 some r_
 else
 (bif gB [((decide (16<(l.length:Int))),false)]then fG l p.buses p.sources p.links p.racks p.buses p.sources p.links p.racks else some default).bind fun r_1=>
 bif (bif (decide (16<(l.length:Int)))then true else r_1)then
 some 1
 else
 some 0
def sW (s_:(List Bool)) (s_nn:Bool):Option (List Bool):=
 bif (!s_nn)then
 some ([]:List Bool)
 else
 bI (((([]:List Bool).length+s_.length)*1≤140737488355328)∧(([]:List Bool).length+s_.length≤4611686018427387904)) (
 some (([]:List Bool)++s_))
def bg (s:(List Bool)):Option (List Bool):=sW s true
def pM (s_:State):Option State:=
 bI ((0:Int)≤0∧0<(7:Int)) (
 (bg s_.closed).bind fun r_=>
 bI ((0:Int)≤1∧1<(7:Int)) (
 (bg s_.locked).bind fun r_1=>
 bI ((0:Int)≤2∧2<(7:Int)) (
 (bg s_.badLink).bind fun r_2=>
 bI ((0:Int)≤3∧3<(7:Int)) (
 (bg s_.on_).bind fun r_3=>
 bI ((0:Int)≤4∧4<(7:Int)) (
 (bg s_.badSource).bind fun r_4=>
 bI ((0:Int)≤5∧5<(7:Int)) (
 (bg s_.earthed).bind fun r_5=>
 bI ((0:Int)≤6∧6<(7:Int)) (
 (bg s_.badBus).bind fun r_6=>
 some (⟨r_,r_1,r_2,r_3,r_4,r_5,r_6⟩:State))))))))
def pz (p:ai) (s_:State) (l:(List Transfer)):Option ((List Transfer) × Int × (List Source) × (List Link) × (List aT) × State):=
 some (l,p.buses,p.sources,p.links,p.racks,s_)
def j6 (p:ai) (s_:State):Option (Int × (List Source) × (List Link) × (List aT) × (List Bool) × (List Bool) × (List Bool) × (List Bool) × (List Bool) × (List Bool) × (List Bool)):=
 some (p.buses,p.sources,p.links,p.racks,s_.closed,s_.locked,s_.badLink,s_.on_,s_.badSource,s_.earthed,s_.badBus)
def eu (g:bB):Int→Option (aS Int (Ex Unit Int)):=
 fun x1=>
 bif (!((bn bV x1 g.head).isSome))then
 some (.done (.ret x1))
 else
 some (.next ((bn bV x1 g.head).getD 0))
def bX (g:bB) (x:Int):Option Int:=
 Option.bind (aA (eu g) FUEL (x)) fun o=>match o with
 | .ret v=>some v
 | .brk _=>none
def jo (g:bB) (a:Int) (b:Int):Option (List (Int × Int)):=
 (bX g a).bind fun r_=>
 (bX g b).bind fun r_1=>
 bif (!decide (r_=r_1))then
 some (gu bV r_ r_1 g.head)
 else
 some g.head
def lV (x22:Int) (x221:Int) (x222:Int) (x223:Int) (x224:Int) (x225:(List vH)) (o_:bB):Option bB:=
 (jo o_ x22 x221).bind fun r_=>
 some (⟨r_⟩:bB)
def di (x12:(List Link)) (x2:(List Bool)) (x22:(List Bool)) (x26:(List Bool)):((List (Int × Int)) × Int)→Option (aS ((List (Int × Int)) × Int) (Ex (List (Int × Int)) bB)):=
 fun zz=>match zz with
 |(o50,t9)=>
 bif (decide (t9<(x12.length:Int)))then
 bI ((0:Int)≤t9∧t9<(x12.length:Int)) (
 bif (bif (bif (bif (at' x2 t9.toNat)then(!(at' x22 t9.toNat))else false)then(!(at' x26 (((at' x12 t9.toNat).a).toNat)))else false)then(!(at' x26 (((at' x12 t9.toNat).b).toNat)))else false)then
 (lV ((at' x12 t9.toNat).a) ((at' x12 t9.toNat).b) ((at' x12 t9.toNat).kind) ((at' x12 t9.toNat).most) ((at' x12 t9.toNat).ohm) ((at' x12 t9.toNat).trip) (⟨o50⟩:bB)).bind fun r_=>
 bI (((0:Int)≤t9∧t9<(x2.length:Int))∧(gB [((at' x2 t9.toNat),true)]=true→(0:Int)≤t9∧t9<(x22.length:Int))∧(gB [((bif (at' x2 t9.toNat)then(!(at' x22 t9.toNat))else false),true)]=true→(0:Int)≤(at' x12 t9.toNat).a∧(at' x12 t9.toNat).a<(x26.length:Int))∧(gB [((bif (bif (at' x2 t9.toNat)then(!(at' x22 t9.toNat))else false)then(!(at' x26 (((at' x12 t9.toNat).a).toNat)))else false),true)]=true→(0:Int)≤(at' x12 t9.toNat).b∧(at' x12 t9.toNat).b<(x26.length:Int))) (
 some (.next (r_.head,(IntKind.wrap .i64 (t9+1)))))
 else
 bI (((0:Int)≤t9∧t9<(x2.length:Int))∧(gB [((at' x2 t9.toNat),true)]=true→(0:Int)≤t9∧t9<(x22.length:Int))∧(gB [((bif (at' x2 t9.toNat)then(!(at' x22 t9.toNat))else false),true)]=true→(0:Int)≤(at' x12 t9.toNat).a∧(at' x12 t9.toNat).a<(x26.length:Int))∧(gB [((bif (bif (at' x2 t9.toNat)then(!(at' x22 t9.toNat))else false)then(!(at' x26 (((at' x12 t9.toNat).a).toNat)))else false),true)]=true→(0:Int)≤(at' x12 t9.toNat).b∧(at' x12 t9.toNat).b<(x26.length:Int))) (
 some (.next (o50,(IntKind.wrap .i64 (t9+1))))))
 else
 some (.done (.brk o50))
def lN (x1:Int) (x11:(List Source)) (x12:(List Link)) (x13:(List aT)) (x2:(List Bool)) (x21:(List Bool)) (x22:(List Bool)) (x23:(List Bool)) (x24:(List Bool)) (x25:(List Bool)) (x26:(List Bool)) (o_:bB):Option bB:=
 Option.bind (aA (di x12 x2 x22 x26) FUEL (o_.head,0)) fun o=>match o with
 | .ret v=>some v
 | .brk o501=>
 some (⟨o501⟩:bB)
def bM (p:ai) (s_:State) (r_1:bB):((List aH) × (List (Int × Int)) × Int)→Option (aS ((List aH) × (List (Int × Int)) × Int) (Ex ((List aH) × (List (Int × Int))) (List aH))):=
 fun zz=>match zz with
 |(out,at_,t32)=>
 bif (decide (t32<p.buses))then
 bI ((0:Int)≤t32∧t32<(s_.badBus.length:Int)) (
 bif (at' s_.badBus t32.toNat)then
 some (.next (out,at_,(IntKind.wrap .i64 (t32+1))))
 else
 (bX r_1 t32).bind fun r_2=>
 bif (!((bn bV r_2 at_).isSome))then
 bI (((out.length+[(⟨([]:List Int),([]:List Int)⟩:aH)].length)*48≤140737488355328)∧(out.length+[(⟨([]:List Int),([]:List Int)⟩:aH)].length≤4611686018427387904)) (
 bI (((0:Int)≤((bn bV r_2 (gu bV r_2 (out.length:Int) at_)).getD 0)∧((bn bV r_2 (gu bV r_2 (out.length:Int) at_)).getD 0)<((out++[(⟨([]:List Int),([]:List Int)⟩:aH)]).length:Int))∧((((at' (out++[(⟨([]:List Int),([]:List Int)⟩:aH)]) (((bn bV r_2 (gu bV r_2 (out.length:Int) at_)).getD 0).toNat)).buses).length+[t32].length)*8≤140737488355328)∧(((at' (out++[(⟨([]:List Int),([]:List Int)⟩:aH)]) (((bn bV r_2 (gu bV r_2 (out.length:Int) at_)).getD 0).toNat)).buses).length+[t32].length≤4611686018427387904)) (
 some (.next (((out++[(⟨([]:List Int),([]:List Int)⟩:aH)]).set (((bn bV r_2 (gu bV r_2 (out.length:Int) at_)).getD 0).toNat) (⟨(((at' (out++[(⟨([]:List Int),([]:List Int)⟩:aH)]) (((bn bV r_2 (gu bV r_2 (out.length:Int) at_)).getD 0).toNat)).buses)++[t32]),(at' (out++[(⟨([]:List Int),([]:List Int)⟩:aH)]) (((bn bV r_2 (gu bV r_2 (out.length:Int) at_)).getD 0).toNat)).sources⟩:aH)),(gu bV r_2 (out.length:Int) at_),(IntKind.wrap .i64 (t32+1))))))
 else
 bI (((0:Int)≤((bn bV r_2 at_).getD 0)∧((bn bV r_2 at_).getD 0)<(out.length:Int))∧((((at' out (((bn bV r_2 at_).getD 0).toNat)).buses).length+[t32].length)*8≤140737488355328)∧(((at' out (((bn bV r_2 at_).getD 0).toNat)).buses).length+[t32].length≤4611686018427387904)) (
 some (.next ((out.set (((bn bV r_2 at_).getD 0).toNat) (⟨(((at' out (((bn bV r_2 at_).getD 0).toNat)).buses)++[t32]),(at' out (((bn bV r_2 at_).getD 0).toNat)).sources⟩:aH)),at_,(IntKind.wrap .i64 (t32+1))))))
 else
 some (.done (.brk (out,at_)))
def bN (p:ai) (s_:State) (r_1:bB) (at_1:(List (Int × Int))):((List aH) × Int)→Option (aS ((List aH) × Int) (Ex (List aH) (List aH))):=
 fun zz=>match zz with
 |(out2,t78)=>
 bif (decide (t78<(p.sources.length:Int)))then
 bI ((0:Int)≤t78∧t78<(p.sources.length:Int)) (
 bI (((0:Int)≤t78∧t78<(s_.on_.length:Int))∧(gB [((at' s_.on_ t78.toNat),true)]=true→(0:Int)≤t78∧t78<(s_.badSource.length:Int))∧(gB [((bif (at' s_.on_ t78.toNat)then(!(at' s_.badSource t78.toNat))else false),true)]=true→(0:Int)≤(at' p.sources t78.toNat).bus∧(at' p.sources t78.toNat).bus<(s_.badBus.length:Int))) (
 bif (bif (bif (at' s_.on_ t78.toNat)then(!(at' s_.badSource t78.toNat))else false)then(!(at' s_.badBus (((at' p.sources t78.toNat).bus).toNat)))else false)then
 (bX r_1 ((at' p.sources t78.toNat).bus)).bind fun r_3=>
 bI (((0:Int)≤((bn bV r_3 at_1).getD 0)∧((bn bV r_3 at_1).getD 0)<(out2.length:Int))∧((((at' out2 (((bn bV r_3 at_1).getD 0).toNat)).sources).length+[t78].length)*8≤140737488355328)∧(((at' out2 (((bn bV r_3 at_1).getD 0).toNat)).sources).length+[t78].length≤4611686018427387904)) (
 some (.next ((out2.set (((bn bV r_3 at_1).getD 0).toNat) (⟨(at' out2 (((bn bV r_3 at_1).getD 0).toNat)).buses,(((at' out2 (((bn bV r_3 at_1).getD 0).toNat)).sources)++[t78])⟩:aH)),(IntKind.wrap .i64 (t78+1)))))
 else
 some (.next (out2,(IntKind.wrap .i64 (t78+1))))))
 else
 some (.done (.brk out2))
def fO (p:ai) (s_:State):Option (List aH):=
 (j6 p s_).bind fun r_=>
 (lN r_.1 r_.2.1 r_.2.2.1 r_.2.2.2.1 r_.2.2.2.2.1 r_.2.2.2.2.2.1 r_.2.2.2.2.2.2.1 r_.2.2.2.2.2.2.2.1 r_.2.2.2.2.2.2.2.2.1 r_.2.2.2.2.2.2.2.2.2.1 r_.2.2.2.2.2.2.2.2.2.2 (⟨([]:(List (Int × Int)))⟩:bB)).bind fun r_1=>
 Option.bind (aA (bM p s_ r_1) FUEL (([]:List aH),([]:(List (Int × Int))),0)) fun o=>match o with
 | .ret v=>some v
 | .brk (out1,at_1)=>
 Option.bind (aA (bN p s_ r_1 at_1) FUEL (out1,0)) fun o=>match o with
 | .ret v=>some v
 | .brk out3=>
 some out3
def kK (r_1:(List aH)) (t25:Int):((List Bool) × Int)→Option (aS ((List Bool) × Int) (Ex (List Bool) (aS ((List Bool) × Int) (Ex (List Bool) ((List Bool) × Int))))):=
 fun zz=>match zz with
 |(out2,t32)=>
 bif (decide (t32<(((at' r_1 t25.toNat).buses).length:Int)))then
 bI ((0:Int)≤t32∧t32<(((at' r_1 t25.toNat).buses).length:Int)) (
 bI ((0:Int)≤(at' ((at' r_1 t25.toNat).buses) t32.toNat)∧(at' ((at' r_1 t25.toNat).buses) t32.toNat)<(out2.length:Int)) (
 some (.next ((out2.set ((at' ((at' r_1 t25.toNat).buses) t32.toNat).toNat) (decide (0<(((at' r_1 t25.toNat).sources).length:Int)))),(IntKind.wrap .i64 (t32+1))))))
 else
 some (.done (.brk out2))
def kJ (r_1:(List aH)):((List Bool) × Int)→Option (aS ((List Bool) × Int) (Ex (List Bool) ((List Bool) × Int))):=
 fun zz=>match zz with
 |(out,t25)=>
 bif (decide (t25<(r_1.length:Int)))then
 bI ((0:Int)≤t25∧t25<(r_1.length:Int)) (
 Option.bind (aA (kK r_1 t25) FUEL (out,0)) fun o=>match o with
 | .ret v=>some v
 | .brk out3=>
 some (.next (out3,(IntKind.wrap .i64 (t25+1)))))
 else
 some (.done (.brk out))
def dI (p:ai) (s_:State):Option ((List Bool) × Int):=
 (dz p s_).bind fun r_=>
 bif (!decide (r_=0))then
 some (([]:List Bool),r_)
 else
 bI (((0:Int)≤p.buses)∧((1:Int)*p.buses≤281474976710656)∧((p.buses:Int)≤9223372036854775807)) (
 (fO p s_).bind fun r_1=>
 Option.bind (aA (kJ r_1) FUEL ((List.replicate p.buses.toNat (false:Bool)),0)) fun o=>match o with
 | .ret v=>some v
 | .brk out1=>
 some (out1,0))
def aY (x y:ah):Int:=if x.e0<y.e0 then -1 else if y.e0<x.e0 then 1 else if x.e1<y.e1 then -1 else if y.e1<x.e1 then 1 else 0
def iX (s:(List ah)):Option (List ah):=match s with
 |[]=>some []
 |x::xs=>bif decide ((x::xs).length<4611686018427387904)then some ((x::xs).mergeSort fun x y=> !decide (aY y x<0))else none
def kg (p:ai) (r_1:(List aH)) (t24:Int) (t31:Int):((List ah) × Int)→Option (aS ((List ah) × Int) (Ex (List ah) (aS ((List ah) × Int) (Ex (List ah) (aS ((List ah) × Int) (Ex (List ah) ((List ah) × Int))))))):=
 fun zz=>match zz with
 |(out4,t42)=>
 bif (decide (t42<(((((at' r_1 t24.toNat).sources).length - ((IntKind.wrap .i64 (t31+1)).toNat)):Nat):Int)))then
 bI ((0:Int)≤t42∧t42<((((at' r_1 t24.toNat).sources).drop ((IntKind.wrap .i64 (t31+1)).toNat)).length:Int)) (
 bI (((0:Int)≤(at' ((at' r_1 t24.toNat).sources) t31.toNat)∧(at' ((at' r_1 t24.toNat).sources) t31.toNat)<(p.sources.length:Int))∧(gB [((decide (((at' p.sources ((at' ((at' r_1 t24.toNat).sources) t31.toNat).toNat)).sync)=0)),false)]=true→(0:Int)≤(at' ((at' r_1 t24.toNat).sources) t31.toNat)∧(at' ((at' r_1 t24.toNat).sources) t31.toNat)<(p.sources.length:Int))∧(gB [((decide (((at' p.sources ((at' ((at' r_1 t24.toNat).sources) t31.toNat).toNat)).sync)=0)),false)]=true→(0:Int)≤(at' (((at' r_1 t24.toNat).sources).drop ((IntKind.wrap .i64 (t31+1)).toNat)) t42.toNat)∧(at' (((at' r_1 t24.toNat).sources).drop ((IntKind.wrap .i64 (t31+1)).toNat)) t42.toNat)<(p.sources.length:Int))) (
 bif (bif (decide (((at' p.sources ((at' ((at' r_1 t24.toNat).sources) t31.toNat).toNat)).sync)=0))then true else(!decide (((at' p.sources ((at' ((at' r_1 t24.toNat).sources) t31.toNat).toNat)).sync)=((at' p.sources ((at' (((at' r_1 t24.toNat).sources).drop ((IntKind.wrap .i64 (t31+1)).toNat)) t42.toNat).toNat)).sync))))then
 bI (((out4.length+[(⟨(at' ((at' r_1 t24.toNat).sources) t31.toNat),(at' (((at' r_1 t24.toNat).sources).drop ((IntKind.wrap .i64 (t31+1)).toNat)) t42.toNat)⟩:ah)].length)*16≤140737488355328)∧(out4.length+[(⟨(at' ((at' r_1 t24.toNat).sources) t31.toNat),(at' (((at' r_1 t24.toNat).sources).drop ((IntKind.wrap .i64 (t31+1)).toNat)) t42.toNat)⟩:ah)].length≤4611686018427387904)) (
 some (.next ((out4++[(⟨(at' ((at' r_1 t24.toNat).sources) t31.toNat),(at' (((at' r_1 t24.toNat).sources).drop ((IntKind.wrap .i64 (t31+1)).toNat)) t42.toNat)⟩:ah)]),(IntKind.wrap .i64 (t42+1)))))
 else
 some (.next (out4,(IntKind.wrap .i64 (t42+1))))))
 else
 some (.done (.brk out4))
def j5 (p:ai) (r_1:(List aH)) (t24:Int):((List ah) × Int)→Option (aS ((List ah) × Int) (Ex (List ah) (aS ((List ah) × Int) (Ex (List ah) ((List ah) × Int))))):=
 fun zz=>match zz with
 |(out2,t31)=>
 bif (decide (t31<(((at' r_1 t24.toNat).sources).length:Int)))then
 bI ((0:Int)≤t31∧t31<(((at' r_1 t24.toNat).sources).length:Int)) (
 bI ((0:Int)≤(IntKind.wrap .i64 (t31+1))∧(IntKind.wrap .i64 (t31+1))≤(((at' r_1 t24.toNat).sources).length:Int)) (
 Option.bind (aA (kg p r_1 t24 t31) FUEL (out2,0)) fun o=>match o with
 | .ret v=>some v
 | .brk out5=>
 some (.next (out5,(IntKind.wrap .i64 (t31+1))))))
 else
 some (.done (.brk out2))
def gW (p:ai) (r_1:(List aH)):((List ah) × Int)→Option (aS ((List ah) × Int) (Ex (List ah) ((List ah) × Int))):=
 fun zz=>match zz with
 |(out,t24)=>
 bif (decide (t24<(r_1.length:Int)))then
 bI ((0:Int)≤t24∧t24<(r_1.length:Int)) (
 Option.bind (aA (j5 p r_1 t24) FUEL (out,0)) fun o=>match o with
 | .ret v=>some v
 | .brk out3=>
 some (.next (out3,(IntKind.wrap .i64 (t24+1)))))
 else
 some (.done (.brk out))
def dD (p:ai) (s_:State):Option ((List ah) × Int):=
 (dz p s_).bind fun r_=>
 bif (!decide (r_=0))then
 some (([]:List ah),r_)
 else
 (fO p s_).bind fun r_1=>
 Option.bind (aA (gW p r_1) FUEL (([]:List ah),0)) fun o=>match o with
 | .ret v=>some v
 | .brk out1=>
 (iX out1).bind fun r_2=>
 bI (out1.length=r_2.length) (
 some (r_2,0))
def pO (s_:(List ah)) (v_:ah):Int→Option (aS Int (Ex Unit Int)):=
 fun t8=>
 bif (decide (t8<(s_.length:Int)))then
 bI ((0:Int)≤t8∧t8<(s_.length:Int)) (
 bif ((decide (v_.e0=((at' s_ t8.toNat).e0))) && ((decide (v_.e1=((at' s_ t8.toNat).e1))) && true))then
 some (.done (.ret t8))
 else
 some (.next (IntKind.wrap .i64 (t8+1))))
 else
 some (.done (.brk ()))
def tL (s_:(List ah)) (v_:ah):Option Int:=
 Option.bind (aA (pO s_ v_) FUEL (0)) fun o=>match o with
 | .ret v=>some v
 | .brk _=>
 some (-1)
def lC (s_:(List ah)) (v_:ah):Option Bool:=
 (tL s_ v_).bind fun r_=>
 some (decide (0≤r_))
def qW (c:ah) (x1:(List ah)):Option Bool:=
 (lC x1 c).bind fun r_=>
 some (!r_)
def ji (s_:(List ah)) (f_:(List ah)):Int→Option (aS Int (Ex Unit Int)):=
 fun t8=>
 bif (decide (t8<(s_.length:Int)))then
 (qW (at' s_ t8.toNat) f_).bind fun r_=>
 bI ((0:Int)≤t8∧t8<(s_.length:Int)) (
 bif r_ then
 some (.done (.ret t8))
 else
 some (.next (IntKind.wrap .i64 (t8+1))))
 else
 some (.done (.brk ()))
def kU (s_:(List ah)) (f_:(List ah)):Option Int:=
 Option.bind (aA (ji s_ f_) FUEL (0)) fun o=>match o with
 | .ret v=>some v
 | .brk _=>
 some (-1)
def cK (s_:(List ah)) (f_:(List ah)):Option Bool:=
 (kU s_ f_).bind fun r_=>
 some (decide (0≤r_))
def gN (s_:State) (r_:((List Bool) × Int)) (r_2:((List Bool) × Int)):Int→Option (aS Int (Ex Unit (State × Bool))):=
 fun t103=>
 bif (decide (t103<(r_2.1.length:Int)))then
 bI (((0:Int)≤t103∧t103<(r_.1.length:Int))∧(gB [((at' r_.1 t103.toNat),true)]=true→(0:Int)≤t103∧t103<(r_2.1.length:Int))∧(gB [((bif (at' r_.1 t103.toNat)then(!(at' r_2.1 t103.toNat))else false),false)]=true→(0:Int)≤t103∧t103<(r_2.1.length:Int))∧(gB [((at' r_2.1 t103.toNat),true),((bif (at' r_.1 t103.toNat)then(!(at' r_2.1 t103.toNat))else false),false)]=true→(0:Int)≤t103∧t103<(s_.earthed.length:Int))∧(gB [((bif (at' r_2.1 t103.toNat)then(at' s_.earthed t103.toNat)else false),true),((bif (at' r_.1 t103.toNat)then(!(at' r_2.1 t103.toNat))else false),false)]=true→(0:Int)≤t103∧t103<(r_.1.length:Int))) (
 bif (bif (bif (at' r_.1 t103.toNat)then(!(at' r_2.1 t103.toNat))else false)then true else(bif (bif (at' r_2.1 t103.toNat)then(at' s_.earthed t103.toNat)else false)then(!(at' r_.1 t103.toNat))else false))then
 some (.done (.ret (s_,false)))
 else
 some (.next (IntKind.wrap .i64 (t103+1))))
 else
 some (.done (.brk ()))
def wM (s_:State) (r_:((List Bool) × Int)) (r_6:((List Bool) × Int)):Int→Option (aS Int (Ex Unit (State × Bool))):=
 fun t1031=>
 bif (decide (t1031<(r_6.1.length:Int)))then
 bI (((0:Int)≤t1031∧t1031<(r_.1.length:Int))∧(gB [((at' r_.1 t1031.toNat),true)]=true→(0:Int)≤t1031∧t1031<(r_6.1.length:Int))∧(gB [((bif (at' r_.1 t1031.toNat)then(!(at' r_6.1 t1031.toNat))else false),false)]=true→(0:Int)≤t1031∧t1031<(r_6.1.length:Int))∧(gB [((at' r_6.1 t1031.toNat),true),((bif (at' r_.1 t1031.toNat)then(!(at' r_6.1 t1031.toNat))else false),false)]=true→(0:Int)≤t1031∧t1031<(s_.earthed.length:Int))∧(gB [((bif (at' r_6.1 t1031.toNat)then(at' s_.earthed t1031.toNat)else false),true),((bif (at' r_.1 t1031.toNat)then(!(at' r_6.1 t1031.toNat))else false),false)]=true→(0:Int)≤t1031∧t1031<(r_.1.length:Int))) (
 bif (bif (bif (at' r_.1 t1031.toNat)then(!(at' r_6.1 t1031.toNat))else false)then true else(bif (bif (at' r_6.1 t1031.toNat)then(at' s_.earthed t1031.toNat)else false)then(!(at' r_.1 t1031.toNat))else false))then
 some (.done (.ret (s_,false)))
 else
 some (.next (IntKind.wrap .i64 (t1031+1))))
 else
 some (.done (.brk ()))
def nH (p:ai) (s_:State) (x:Transfer):Option (State × Bool):=
 (dI p s_).bind fun r_=>
 bI (((0:Int)≤x.watch∧x.watch<(s_.badBus.length:Int))∧(gB [((at' s_.badBus x.watch.toNat),false)]=true→(0:Int)≤x.watch∧x.watch<(r_.1.length:Int))∧(gB [((bif (at' s_.badBus x.watch.toNat)then true else(at' r_.1 x.watch.toNat)),false)]=true→(0:Int)≤x.close∧x.close<(s_.closed.length:Int))∧(gB [((bif (bif (at' s_.badBus x.watch.toNat)then true else(at' r_.1 x.watch.toNat))then true else(at' s_.closed x.close.toNat)),false)]=true→(0:Int)≤x.close∧x.close<(s_.badLink.length:Int))∧(gB [((bif (bif (bif (at' s_.badBus x.watch.toNat)then true else(at' r_.1 x.watch.toNat))then true else(at' s_.closed x.close.toNat))then true else(at' s_.badLink x.close.toNat)),false)]=true→(0:Int)≤x.close∧x.close<(s_.locked.length:Int))) (
 bif (bif (bif (bif (bif (at' s_.badBus x.watch.toNat)then true else(at' r_.1 x.watch.toNat))then true else(at' s_.closed x.close.toNat))then true else(at' s_.badLink x.close.toNat))then true else(at' s_.locked x.close.toNat))then
 some (s_,false)
 else
 (bg s_.closed).bind fun r_1=>
 bI ((0:Int)≤x.close∧x.close<(r_1.length:Int)) (
 bif (decide (0≤x.open_))then
 bI (((0:Int)≤x.open_∧x.open_<(s_.badLink.length:Int))∧(gB [((at' s_.badLink x.open_.toNat),false)]=true→(0:Int)≤x.open_∧x.open_<(s_.locked.length:Int))) (
 bif (bif (at' s_.badLink x.open_.toNat)then true else(at' s_.locked x.open_.toNat))then
 some (s_,false)
 else
 bI ((0:Int)≤x.open_∧x.open_<((r_1.set x.close.toNat true).length:Int)) (
 (dI p (⟨((r_1.set x.close.toNat true).set x.open_.toNat false),s_.locked,s_.badLink,s_.on_,s_.badSource,s_.earthed,s_.badBus⟩:State)).bind fun r_2=>
 Option.bind (aA (gN s_ r_ r_2) FUEL (0)) fun o=>match o with
 | .ret v=>some v
 | .brk _=>
 (dD p s_).bind fun r_3=>
 (dD p (⟨((r_1.set x.close.toNat true).set x.open_.toNat false),s_.locked,s_.badLink,s_.on_,s_.badSource,s_.earthed,s_.badBus⟩:State)).bind fun r_4=>
 (bif gB [((!(at' r_2.1 x.watch.toNat)),false)]then cK r_4.1 r_3.1 else some default).bind fun r_5=>
 bI ((0:Int)≤x.watch∧x.watch<(r_2.1.length:Int)) (
 bif (bif (!(at' r_2.1 x.watch.toNat))then true else r_5)then
 some (s_,false)
 else
 some ((⟨((r_1.set x.close.toNat true).set x.open_.toNat false),s_.locked,s_.badLink,s_.on_,s_.badSource,s_.earthed,s_.badBus⟩:State),true))))
 else
 (dI p (⟨(r_1.set x.close.toNat true),s_.locked,s_.badLink,s_.on_,s_.badSource,s_.earthed,s_.badBus⟩:State)).bind fun r_6=>
 Option.bind (aA (wM s_ r_ r_6) FUEL (0)) fun o=>match o with
 | .ret v=>some v
 | .brk _=>
 (dD p s_).bind fun r_7=>
 (dD p (⟨(r_1.set x.close.toNat true),s_.locked,s_.badLink,s_.on_,s_.badSource,s_.earthed,s_.badBus⟩:State)).bind fun r_8=>
 (bif gB [((!(at' r_6.1 x.watch.toNat)),false)]then cK r_8.1 r_7.1 else some default).bind fun r_9=>
 bI ((0:Int)≤x.watch∧x.watch<(r_6.1.length:Int)) (
 bif (bif (!(at' r_6.1 x.watch.toNat))then true else r_9)then
 some (s_,false)
 else
 some ((⟨(r_1.set x.close.toNat true),s_.locked,s_.badLink,s_.on_,s_.badSource,s_.earthed,s_.badBus⟩:State),true))))
def ny (x28:Int) (x29:(List Bool)) (x291:(List Bool)) (x292:(List Bool)) (x293:(List Bool)) (x294:(List Bool)) (x295:(List Bool)) (x296:(List Bool)) (state:State) (o_:(List Int)):Option (State × (List Int)):=
 bI (((o_.length+[x28].length)*8≤140737488355328)∧(o_.length+[x28].length≤4611686018427387904)) (
 some ((⟨x29,x291,x292,x293,x294,x295,x296⟩:State),(o_++[x28])))
def jv (x1:(List Transfer)) (x2:Int) (x21:(List Source)) (x22:(List Link)) (x23:(List aT)) (state:State) (o100:(List Bool)) (o110:(List Int)) (done:(List Bool)):Int→Option (aS Int (Ex Unit (aS ((List Bool) × (List Int) × (List Bool)) (Ex ((List Bool) × (List Int)) (State × State × (List Int)))))):=
 fun t15=>
 bif (decide (t15<(x1.length:Int)))then
 bI ((0:Int)≤t15∧t15<(x1.length:Int)) (
 bI ((0:Int)≤t15∧t15<(done.length:Int)) (
 bif (at' done t15.toNat)then
 some (.next (IntKind.wrap .i64 (t15+1)))
 else
 (nH (⟨x2,x21,x22,x23⟩:ai) (⟨o100,state.locked,state.badLink,state.on_,state.badSource,state.earthed,state.badBus⟩:State) (at' x1 t15.toNat)).bind fun r_=>
 bif r_.2 then
 bI ((0:Int)≤t15∧t15<(done.length:Int)) (
 (ny t15 r_.1.closed state.locked state.badLink state.on_ state.badSource state.earthed state.badBus (⟨o100,state.locked,state.badLink,state.on_,state.badSource,state.earthed,state.badBus⟩:State) o110).bind fun r_1=>
 some (.done (.ret (.next (r_.1.closed,r_1.2,(done.set t15.toNat true))))))
 else
 some (.next (IntKind.wrap .i64 (t15+1)))))
 else
 some (.done (.brk ()))
def jw (x1:(List Transfer)) (x2:Int) (x21:(List Source)) (x22:(List Link)) (x23:(List aT)) (state:State):((List Bool) × (List Int) × (List Bool))→Option (aS ((List Bool) × (List Int) × (List Bool)) (Ex ((List Bool) × (List Int)) (State × State × (List Int)))):=
 fun zz=>match zz with
 |(o100,o110,done)=>
 Option.bind (aA (jv x1 x2 x21 x22 x23 state o100 o110 done) FUEL (0)) fun o=>match o with
 | .ret v=>some v
 | .brk _=>
 some (.done (.brk (o100,o110)))
def qj (x1:(List Transfer)) (x2:Int) (x21:(List Source)) (x22:(List Link)) (x23:(List aT)) (state:State) (state1:State) (o_:(List Int)):Option (State × State × (List Int)):=
 Option.bind (α:=Unit) (
 bI (((0:Int)≤(x1.length:Int))∧((1:Int)*(x1.length:Int)≤281474976710656)∧(((x1.length:Int):Int)≤9223372036854775807)) (
 some ())) fun _=>
 Option.bind (aA (jw x1 x2 x21 x22 x23 state) FUEL (state.closed,o_,(List.replicate ((x1.length:Int).toNat) (false:Bool)))) fun o=>match o with
 | .ret v=>some v
 | .brk (o1001,o1101)=>
 some ((⟨o1001,state.locked,state.badLink,state.on_,state.badSource,state.earthed,state.badBus⟩:State),(⟨o1001,state.locked,state.badLink,state.on_,state.badSource,state.earthed,state.badBus⟩:State),o1101)
def fE (p:ai) (s_:State) (l:(List Transfer)):Option (State × (List Int) × Int):=
 (cZ p s_ l).bind fun r_=>
 bif (!decide (r_=0))then
 some ((⟨([]:List Bool),([]:List Bool),([]:List Bool),([]:List Bool),([]:List Bool),([]:List Bool),([]:List Bool)⟩:State),([]:List Int),r_)
 else
 (pM s_).bind fun r_1=>
 (pz p r_1 l).bind fun r_2=>
 (qj r_2.1 r_2.2.1 r_2.2.2.1 r_2.2.2.2.1 r_2.2.2.2.2.1 r_1 r_1 ([]:List Int)).bind fun r_3=>
 some ((⟨r_3.1.closed,r_1.locked,r_1.badLink,r_1.on_,r_1.badSource,r_1.earthed,r_1.badBus⟩:State),r_3.2.2,0)
def Cc (a:(List Int)) (b:(List Int)):Int→Option (aS Int (Ex Unit Bool)):=
 fun i=>
 bif (decide (i<(a.length:Int)))then
 bI (((0:Int)≤i∧i<(a.length:Int))∧((0:Int)≤i∧i<(b.length:Int))) (
 bif (!decide ((at' a i.toNat)=(at' b i.toNat)))then
 some (.done (.ret false))
 else
 some (.next (IntKind.wrap .i64 (i+1))))
 else
 some (.done (.brk ()))
def oJ (a:(List Int)) (b:(List Int)):Option Bool:=
 bif (!decide ((a.length:Int)=(b.length:Int)))then
 some false
 else
 Option.bind (aA (Cc a b) FUEL (0)) fun o=>match o with
 | .ret v=>some v
 | .brk _=>
 some true
def oV (s_:State):Option State:=
 bI ((0:Int)≤0∧0<(7:Int)) (
 (bg s_.closed).bind fun r_=>
 bI ((0:Int)≤1∧1<(7:Int)) (
 (bg s_.locked).bind fun r_1=>
 bI ((0:Int)≤2∧2<(7:Int)) (
 (bg s_.badLink).bind fun r_2=>
 bI ((0:Int)≤3∧3<(7:Int)) (
 (bg s_.on_).bind fun r_3=>
 bI ((0:Int)≤4∧4<(7:Int)) (
 (bg s_.badSource).bind fun r_4=>
 bI ((0:Int)≤5∧5<(7:Int)) (
 (bg s_.earthed).bind fun r_5=>
 bI ((0:Int)≤6∧6<(7:Int)) (
 (bg s_.badBus).bind fun r_6=>
 some (⟨r_,r_1,r_2,r_3,r_4,r_5,r_6⟩:State))))))))
def lM (p:ai) (s_:State) (x:Part) (is:Bool):Option (State × Int):=
 (dz p s_).bind fun r_=>
 bif (!decide (r_=0))then
 some ((⟨([]:List Bool),([]:List Bool),([]:List Bool),([]:List Bool),([]:List Bool),([]:List Bool),([]:List Bool)⟩:State),r_)
 else
 (oV s_).bind fun r_1=>
 bif (bV x.kind 1)then
 (aP x.index 0 (IntKind.wrap .i64 ((r_1.badBus.length:Int) - 1))).bind fun r_2=>
 bif (!r_2)then
 some ((⟨([]:List Bool),([]:List Bool),([]:List Bool),([]:List Bool),([]:List Bool),([]:List Bool),([]:List Bool)⟩:State),14)
 else
 bI ((0:Int)≤x.index∧x.index<(r_1.badBus.length:Int)) (
 some ((⟨r_1.closed,r_1.locked,r_1.badLink,r_1.on_,r_1.badSource,r_1.earthed,(r_1.badBus.set x.index.toNat is)⟩:State),0))
 else
 bif (bV x.kind 2)then
 (aP x.index 0 (IntKind.wrap .i64 ((r_1.badSource.length:Int) - 1))).bind fun r_3=>
 bif (!r_3)then
 some ((⟨([]:List Bool),([]:List Bool),([]:List Bool),([]:List Bool),([]:List Bool),([]:List Bool),([]:List Bool)⟩:State),14)
 else
 bI ((0:Int)≤x.index∧x.index<(r_1.badSource.length:Int)) (
 some ((⟨r_1.closed,r_1.locked,r_1.badLink,r_1.on_,(r_1.badSource.set x.index.toNat is),r_1.earthed,r_1.badBus⟩:State),0))
 else
 bif (bV x.kind 3)then
 (aP x.index 0 (IntKind.wrap .i64 ((r_1.badLink.length:Int) - 1))).bind fun r_4=>
 bif (!r_4)then
 some ((⟨([]:List Bool),([]:List Bool),([]:List Bool),([]:List Bool),([]:List Bool),([]:List Bool),([]:List Bool)⟩:State),14)
 else
 bI ((0:Int)≤x.index∧x.index<(r_1.badLink.length:Int)) (
 some ((⟨r_1.closed,r_1.locked,(r_1.badLink.set x.index.toNat is),r_1.on_,r_1.badSource,r_1.earthed,r_1.badBus⟩:State),0))
 else
 (aP x.index 0 (-1)).bind fun r_5=>
 bif (!r_5)then
 some ((⟨([]:List Bool),([]:List Bool),([]:List Bool),([]:List Bool),([]:List Bool),([]:List Bool),([]:List Bool)⟩:State),14)
 else
 none
def qA (p:ai) (s_:State) (x:Part):Option (State × Int):=
 (lM p s_ x true).bind fun r_=>
 some (r_.1,r_.2)
def jC (p:ai) (parts:(List Part)):((List Bool) × (List Bool) × (List Bool) × (List Bool) × (List Bool) × (List Bool) × (List Bool) × Int)→Option (aS ((List Bool) × (List Bool) × (List Bool) × (List Bool) × (List Bool) × (List Bool) × (List Bool) × Int) (Ex ((List Bool) × (List Bool) × (List Bool) × (List Bool) × (List Bool) × (List Bool) × (List Bool)) (State × Int))):=
 fun zz=>match zz with
 |(s0,s1,s2,s3,s4,s5,s6,t26)=>
 bif (decide (t26<(parts.length:Int)))then
 bI ((0:Int)≤t26∧t26<(parts.length:Int)) (
 (qA p (⟨s0,s1,s2,s3,s4,s5,s6⟩:State) (at' parts t26.toNat)).bind fun r_1=>
 bif (!decide (r_1.2=0))then
 some (.done (.ret ((⟨([]:List Bool),([]:List Bool),([]:List Bool),([]:List Bool),([]:List Bool),([]:List Bool),([]:List Bool)⟩:State),r_1.2)))
 else
 some (.next (r_1.1.closed,r_1.1.locked,r_1.1.badLink,r_1.1.on_,r_1.1.badSource,r_1.1.earthed,r_1.1.badBus,(IntKind.wrap .i64 (t26+1)))))
 else
 some (.done (.brk (s0,s1,s2,s3,s4,s5,s6)))
def kS (p:ai) (s_:State) (l:(List Transfer)) (parts:(List Part)):Option (State × Int):=
 (cZ p s_ l).bind fun r_=>
 bif (!decide (r_=0))then
 some ((⟨([]:List Bool),([]:List Bool),([]:List Bool),([]:List Bool),([]:List Bool),([]:List Bool),([]:List Bool)⟩:State),r_)
 else
 Option.bind (aA (jC p parts) FUEL (s_.closed,s_.locked,s_.badLink,s_.on_,s_.badSource,s_.earthed,s_.badBus,0)) fun o=>match o with
 | .ret v=>some v
 | .brk (s01,s11,s21,s31,s41,s51,s61)=>
 (fE p (⟨s01,s11,s21,s31,s41,s51,s61⟩:State) l).bind fun r_2=>
 some (r_2.1,r_2.2.2)
def o7 (p:ai) (s_:State) (rack:Int):Option Int:=
 (dz p s_).bind fun r_=>
 bif (!decide (r_=0))then
 some r_
 else
 bif (bif (decide (rack<0))then true else(decide ((p.racks.length:Int)≤rack)))then
 some 13
 else
 some 0
def jS (p:ai) (t24:Int):((List Part) × Int)→Option (aS ((List Part) × Int) (Ex (List Part) (aS ((List Part) × Int) (Ex (List Part) ((List Part) × Int))))):=
 fun zz=>match zz with
 |(out2,t30)=>
 bif (decide (t30<(at' [p.buses,(p.sources.length:Int),(p.links.length:Int)] t24.toNat)))then
 bI (((out2.length+[(⟨(IntKind.wrap .i64 (t24+1)),t30⟩:Part)].length)*16≤140737488355328)∧(out2.length+[(⟨(IntKind.wrap .i64 (t24+1)),t30⟩:Part)].length≤4611686018427387904)) (
 some (.next ((out2++[(⟨(IntKind.wrap .i64 (t24+1)),t30⟩:Part)]),(IntKind.wrap .i64 (t30+1)))))
 else
 some (.done (.brk out2))
def gJ (p:ai):((List Part) × Int)→Option (aS ((List Part) × Int) (Ex (List Part) ((List Part) × Int))):=
 fun zz=>match zz with
 |(out,t24)=>
 bif (decide (t24<([p.buses,(p.sources.length:Int),(p.links.length:Int)].length:Int)))then
 bI ((0:Int)≤t24∧t24<([p.buses,(p.sources.length:Int),(p.links.length:Int)].length:Int)) (
 Option.bind (aA (jS p t24) FUEL (out,0)) fun o=>match o with
 | .ret v=>some v
 | .brk out3=>
 some (.next (out3,(IntKind.wrap .i64 (t24+1)))))
 else
 some (.done (.brk out))
def iY (p:ai):Option ((List Part) × Int):=
 (nO p).bind fun r_=>
 bif (!decide (r_=0))then
 some (([]:List Part),r_)
 else
 Option.bind (aA (gJ p) FUEL (([]:List Part),0)) fun o=>match o with
 | .ret v=>some v
 | .brk out1=>
 some (out1,0)
def eP (a:Int) (b:Int) (graph:Graph):Option Graph:=
 bI ((((bA a graph.arcs.e0).length+[b].length)*8≤140737488355328)∧((bA a graph.arcs.e0).length+[b].length≤4611686018427387904)) (
 some (⟨graph.parts,(⟨(jX a ((bA a graph.arcs.e0)++[b]) graph.arcs.e0),graph.arcs.e1⟩:aF)⟩:Graph))
def yF (s_:(List Part)) (v_:Part):Int→Option (aS Int (Ex Unit Int)):=
 fun t8=>
 bif (decide (t8<(s_.length:Int)))then
 bI ((0:Int)≤t8∧t8<(s_.length:Int)) (
 bif ((decide (v_.kind=((at' s_ t8.toNat).kind))) && ((decide (v_.index=((at' s_ t8.toNat).index))) && true))then
 some (.done (.ret t8))
 else
 some (.next (IntKind.wrap .i64 (t8+1))))
 else
 some (.done (.brk ()))
def uP (s_:(List Part)) (v_:Part):Option Int:=
 Option.bind (aA (yF s_ v_) FUEL (0)) fun o=>match o with
 | .ret v=>some v
 | .brk _=>
 some (-1)
def eO (kz:Int) (i:Int) (graph:Graph):Option Int:=
 (uP graph.parts (⟨kz,i⟩:Part)).bind fun r_=>
 some r_
def yg (r_:((List Part) × Int)):((List (Int × (List Int))) × Int)→Option (aS ((List (Int × (List Int))) × Int) (Ex (List (Int × (List Int))) Graph)):=
 fun zz=>match zz with
 |(g01,t41)=>
 bif (decide (t41<(r_.1.length:Int)))then
 (eP (IntKind.wrap .i64 ((2:Int)*t41)) (IntKind.wrap .i64 ((IntKind.wrap .i64 ((2:Int)*t41))+1)) (⟨r_.1,(⟨g01,([]:(List (Int × (List Int))))⟩:aF)⟩:Graph)).bind fun r_1=>
 some (.next (r_1.arcs.e0,(IntKind.wrap .i64 (t41+1))))
 else
 some (.done (.brk g01))
def xR (p:ai) (s_:State) (r_:((List Part) × Int)):((List (Int × (List Int))) × Int)→Option (aS ((List (Int × (List Int))) × Int) (Ex (List (Int × (List Int))) Graph)):=
 fun zz=>match zz with
 |(g012,t55)=>
 bif (decide (t55<(p.sources.length:Int)))then
 bI ((0:Int)≤t55∧t55<(p.sources.length:Int)) (
 bI (((0:Int)≤t55∧t55<(s_.on_.length:Int))∧(gB [((at' s_.on_ t55.toNat),true)]=true→(0:Int)≤t55∧t55<(s_.badSource.length:Int))∧(gB [((bif (at' s_.on_ t55.toNat)then(!(at' s_.badSource t55.toNat))else false),true)]=true→(0:Int)≤(at' p.sources t55.toNat).bus∧(at' p.sources t55.toNat).bus<(s_.badBus.length:Int))) (
 bif (bif (bif (at' s_.on_ t55.toNat)then(!(at' s_.badSource t55.toNat))else false)then(!(at' s_.badBus (((at' p.sources t55.toNat).bus).toNat)))else false)then
 (eO 2 t55 (⟨r_.1,(⟨g012,([]:(List (Int × (List Int))))⟩:aF)⟩:Graph)).bind fun r_2=>
 (eP (-1) (IntKind.wrap .i64 ((2:Int)*r_2)) (⟨r_.1,(⟨g012,([]:(List (Int × (List Int))))⟩:aF)⟩:Graph)).bind fun r_3=>
 (eO 1 ((at' p.sources t55.toNat).bus) (⟨r_.1,(⟨r_3.arcs.e0,([]:(List (Int × (List Int))))⟩:aF)⟩:Graph)).bind fun r_4=>
 (eP (IntKind.wrap .i64 ((IntKind.wrap .i64 ((2:Int)*r_2))+1)) (IntKind.wrap .i64 ((2:Int)*r_4)) (⟨r_.1,(⟨r_3.arcs.e0,([]:(List (Int × (List Int))))⟩:aF)⟩:Graph)).bind fun r_5=>
 some (.next (r_5.arcs.e0,(IntKind.wrap .i64 (t55+1))))
 else
 some (.next (g012,(IntKind.wrap .i64 (t55+1))))))
 else
 some (.done (.brk g012))
def yo (p:ai) (r_:((List Part) × Int)) (t103:Int) (r_6:Int):((List (Int × (List Int))) × Int)→Option (aS ((List (Int × (List Int))) × Int) (Ex (List (Int × (List Int))) (aS ((List (Int × (List Int))) × Int) (Ex (List (Int × (List Int))) Graph)))):=
 fun zz=>match zz with
 |(g016,t145)=>
 bif (decide (t145<2))then
 bI ((0:Int)≤t145∧t145<((2:Nat):Int)) (
 (eO 1 (at' [(at' p.links t103.toNat).a,(at' p.links t103.toNat).b] t145.toNat) (⟨r_.1,(⟨g016,([]:(List (Int × (List Int))))⟩:aF)⟩:Graph)).bind fun r_7=>
 (eP (IntKind.wrap .i64 ((IntKind.wrap .i64 ((2:Int)*r_7))+1)) (IntKind.wrap .i64 ((2:Int)*r_6)) (⟨r_.1,(⟨g016,([]:(List (Int × (List Int))))⟩:aF)⟩:Graph)).bind fun r_8=>
 (eO 1 (at' [(at' p.links t103.toNat).a,(at' p.links t103.toNat).b] t145.toNat) (⟨r_.1,(⟨r_8.arcs.e0,([]:(List (Int × (List Int))))⟩:aF)⟩:Graph)).bind fun r_9=>
 (eP (IntKind.wrap .i64 ((IntKind.wrap .i64 ((2:Int)*r_6))+1)) (IntKind.wrap .i64 ((2:Int)*r_9)) (⟨r_.1,(⟨r_8.arcs.e0,([]:(List (Int × (List Int))))⟩:aF)⟩:Graph)).bind fun r_10=>
 some (.next (r_10.arcs.e0,(IntKind.wrap .i64 (t145+1)))))
 else
 some (.done (.brk g016))
def xW (p:ai) (s_:State) (r_:((List Part) × Int)):((List (Int × (List Int))) × Int)→Option (aS ((List (Int × (List Int))) × Int) (Ex (List (Int × (List Int))) Graph)):=
 fun zz=>match zz with
 |(g014,t103)=>
 bif (decide (t103<(p.links.length:Int)))then
 bI ((0:Int)≤t103∧t103<(p.links.length:Int)) (
 bI (((0:Int)≤t103∧t103<(s_.closed.length:Int))∧(gB [((!(at' s_.closed t103.toNat)),false)]=true→(0:Int)≤t103∧t103<(s_.badLink.length:Int))∧(gB [((bif (!(at' s_.closed t103.toNat))then true else(at' s_.badLink t103.toNat)),false)]=true→(0:Int)≤(at' p.links t103.toNat).a∧(at' p.links t103.toNat).a<(s_.badBus.length:Int))∧(gB [((bif (bif (!(at' s_.closed t103.toNat))then true else(at' s_.badLink t103.toNat))then true else(at' s_.badBus (((at' p.links t103.toNat).a).toNat))),false)]=true→(0:Int)≤(at' p.links t103.toNat).b∧(at' p.links t103.toNat).b<(s_.badBus.length:Int))) (
 bif (bif (bif (bif (!(at' s_.closed t103.toNat))then true else(at' s_.badLink t103.toNat))then true else(at' s_.badBus (((at' p.links t103.toNat).a).toNat)))then true else(at' s_.badBus (((at' p.links t103.toNat).b).toNat)))then
 some (.next (g014,(IntKind.wrap .i64 (t103+1))))
 else
 (eO 3 t103 (⟨r_.1,(⟨g014,([]:(List (Int × (List Int))))⟩:aF)⟩:Graph)).bind fun r_6=>
 Option.bind (aA (yo p r_ t103 r_6) FUEL (g014,0)) fun o=>match o with
 | .ret v=>some v
 | .brk g017=>
 some (.next (g017,(IntKind.wrap .i64 (t103+1))))))
 else
 some (.done (.brk g014))
def xY (p:ai) (s_:State) (rack:Int) (r_:((List Part) × Int)):((List (Int × (List Int))) × Int)→Option (aS ((List (Int × (List Int))) × Int) (Ex (List (Int × (List Int))) Graph)):=
 fun zz=>match zz with
 |(g018,t174)=>
 bif (decide (t174<2))then
 bI ((0:Int)≤t174∧t174<((2:Nat):Int)) (
 bI (gB [((decide (0≤(at' [((at' p.racks rack.toNat).feeds).e0,((at' p.racks rack.toNat).feeds).e1] t174.toNat))),true)]=true→(0:Int)≤(at' [((at' p.racks rack.toNat).feeds).e0,((at' p.racks rack.toNat).feeds).e1] t174.toNat)∧(at' [((at' p.racks rack.toNat).feeds).e0,((at' p.racks rack.toNat).feeds).e1] t174.toNat)<(s_.badBus.length:Int)) (
 bif (bif (decide (0≤(at' [((at' p.racks rack.toNat).feeds).e0,((at' p.racks rack.toNat).feeds).e1] t174.toNat)))then(!(at' s_.badBus ((at' [((at' p.racks rack.toNat).feeds).e0,((at' p.racks rack.toNat).feeds).e1] t174.toNat).toNat)))else false)then
 (eO 1 (at' [((at' p.racks rack.toNat).feeds).e0,((at' p.racks rack.toNat).feeds).e1] t174.toNat) (⟨r_.1,(⟨g018,([]:(List (Int × (List Int))))⟩:aF)⟩:Graph)).bind fun r_11=>
 (eP (IntKind.wrap .i64 ((IntKind.wrap .i64 ((2:Int)*r_11))+1)) (-2) (⟨r_.1,(⟨g018,([]:(List (Int × (List Int))))⟩:aF)⟩:Graph)).bind fun r_12=>
 some (.next (r_12.arcs.e0,(IntKind.wrap .i64 (t174+1))))
 else
 some (.next (g018,(IntKind.wrap .i64 (t174+1))))))
 else
 some (.done (.brk g018))
def tC (p:ai) (s_:State) (rack:Int):Option Graph:=
 (iY p).bind fun r_=>
 Option.bind (aA (yg r_) FUEL (([]:(List (Int × (List Int)))),0)) fun o=>match o with
 | .ret v=>some v
 | .brk g011=>
 Option.bind (aA (xR p s_ r_) FUEL (g011,0)) fun o=>match o with
 | .ret v=>some v
 | .brk g013=>
 Option.bind (aA (xW p s_ r_) FUEL (g013,0)) fun o=>match o with
 | .ret v=>some v
 | .brk g015=>
 bI ((0:Int)≤rack∧rack<(p.racks.length:Int)) (
 Option.bind (aA (xY p s_ rack r_) FUEL (g015,0)) fun o=>match o with
 | .ret v=>some v
 | .brk g019=>
 some (⟨r_.1,(⟨g019,([]:(List (Int × (List Int))))⟩:aF)⟩:Graph))
def uW (s_:(List Int)) (s_nn:Bool):Option (List Int):=
 bif (!s_nn)then
 some ([]:List Int)
 else
 bI (((([]:List Int).length+s_.length)*8≤140737488355328)∧(([]:List Int).length+s_.length≤4611686018427387904)) (
 some (([]:List Int)++s_))
def ru (s:(List Int)):Option (List Int):=uW s true
def yQ (s_:(List Int)) (v_:Int):Int→Option (aS Int (Ex Unit Int)):=
 fun t8=>
 bif (decide (t8<(s_.length:Int)))then
 bI ((0:Int)≤t8∧t8<(s_.length:Int)) (
 bif (decide (v_=(at' s_ t8.toNat)))then
 some (.done (.ret t8))
 else
 some (.next (IntKind.wrap .i64 (t8+1))))
 else
 some (.done (.brk ()))
def lq (s_:(List Int)) (v_:Int):Option Int:=
 Option.bind (aA (yQ s_ v_) FUEL (0)) fun o=>match o with
 | .ret v=>some v
 | .brk _=>
 some (-1)
def qX (s:List Int) (i j:Int):Option (List Int):=Wd s i j
def oh (a:Int) (b:Int) (from_:Int) (graph:Graph):Option Graph:=
 bif (decide (from_=0))then
 (lq (bA a graph.arcs.e0) b).bind fun r_=>
 (qX (bA a graph.arcs.e0) r_ (IntKind.wrap .i64 (r_+1))).bind fun r_1=>
 bI ((((bA a graph.arcs.e1).length+[b].length)*8≤140737488355328)∧((bA a graph.arcs.e1).length+[b].length≤4611686018427387904)) (
 some (⟨graph.parts,(⟨(jX a r_1 graph.arcs.e0),(jX a ((bA a graph.arcs.e1)++[b]) graph.arcs.e1)⟩:aF)⟩:Graph))
 else
 bI (from_=1) (
 (lq (bA a graph.arcs.e1) b).bind fun r_2=>
 (qX (bA a graph.arcs.e1) r_2 (IntKind.wrap .i64 (r_2+1))).bind fun r_3=>
 bI ((((bA a graph.arcs.e0).length+[b].length)*8≤140737488355328)∧((bA a graph.arcs.e0).length+[b].length≤4611686018427387904)) (
 some (⟨graph.parts,(⟨(jX a ((bA a graph.arcs.e0)++[b]) graph.arcs.e0),(jX a r_3 graph.arcs.e1)⟩:aF)⟩:Graph)))
def lT (s_:(List Int)) (v_:Int):Option Bool:=
 (lq s_ v_).bind fun r_=>
 some (decide (0≤r_))
def tQ (rec:Int→(List (Int × Bool))→Graph→Option (Bool × (List (Int × Bool)) × Graph)) (at_:Int) (graph:Graph) (r_:(List Int)):((List (Int × Bool)) × (List (Int × (List Int))) × (List (Int × (List Int))) × Int)→Option (aS ((List (Int × Bool)) × (List (Int × (List Int))) × (List (Int × (List Int))) × Int) (Ex ((List (Int × Bool)) × (List (Int × (List Int))) × (List (Int × (List Int)))) (Bool × (List (Int × Bool)) × Graph))):=
 fun zz=>match zz with
 |(o0,o01,o02,t23)=>
 bif (decide (t23<(r_.length:Int)))then
 bI ((0:Int)≤t23∧t23<(r_.length:Int)) (
 bif (!((bn bV (at' r_ t23.toNat) o0).getD false))then
 (rec (at' r_ t23.toNat) o0 (⟨graph.parts,(⟨o01,o02⟩:aF)⟩:Graph)).bind fun r_1=>
 bif r_1.1 then
 (oh at_ (at' r_ t23.toNat) 0 (⟨graph.parts,r_1.2.2.arcs⟩:Graph)).bind fun r_2=>
 some (.done (.ret (true,r_1.2.1,(⟨graph.parts,r_2.arcs⟩:Graph))))
 else
 some (.next (r_1.2.1,r_1.2.2.arcs.e0,r_1.2.2.arcs.e1,(IntKind.wrap .i64 (t23+1))))
 else
 some (.next (o0,o01,o02,(IntKind.wrap .i64 (t23+1)))))
 else
 some (.done (.brk (o0,o01,o02)))
def gX (rec:Int→(List (Int × Bool))→Graph→Option (Bool × (List (Int × Bool)) × Graph)) (at_:Int) (graph:Graph) (o021:(List (Int × (List Int)))):Int × List Int→((List (Int × Bool)) × (List (Int × (List Int))))→Option (aS ((List (Int × Bool)) × (List (Int × (List Int)))) (Ex Empty (Bool × (List (Int × Bool)) × Graph))):=
 fun x=>fun zz=>match zz with
 |(o04,o012)=>
 bif (bif (!((bn bV x.1 o04).getD false))then(!decide (x.1=(-1)))else false)then
 (lT x.2 at_).bind fun r_3=>
 bif r_3 then
 (rec x.1 o04 (⟨graph.parts,(⟨o012,o021⟩:aF)⟩:Graph)).bind fun r_4=>
 bif r_4.1 then
 (oh x.1 at_ 1 (⟨graph.parts,r_4.2.2.arcs⟩:Graph)).bind fun r_5=>
 some (.done (.ret (true,r_4.2.1,(⟨graph.parts,r_5.arcs⟩:Graph))))
 else
 bI (r_4.2.2.arcs.e1=o021) (
 some (.next (r_4.2.1,r_4.2.2.arcs.e0)))
 else
 some (.next (o04,o012))
 else
 some (.next (o04,o012))
def lW (at_:Int):Int × List Int→Bool:=
 fun x=> !(decide (x.1= -1)) && nfl (lT x.2 at_)
def kI (rec:Int→(List (Int × Bool))→Graph→Option (Bool × (List (Int × Bool)) × Graph)) (at_:Int) (o_:(List (Int × Bool))) (graph:Graph):Option (Bool × (List (Int × Bool)) × Graph):=
 bif (decide (at_=(-2)))then
 some (true,o_,graph)
 else
 (ru (bA at_ graph.arcs.e0)).bind fun r_=>
 Option.bind (aA (tQ rec at_ graph r_) FUEL ((gu bV at_ true o_),graph.arcs.e0,graph.arcs.e1,0)) fun o=>match o with
 | .ret v=>some v
 | .brk (o03,o011,o021)=>
 Option.bind (goG o021 (lW at_) (gX rec at_ graph o021) (o03,o011)) fun o=>match o with
 | .ret v=>some v
 | .brk (o05,o013)=>
 some (false,o05,(⟨graph.parts,(⟨o013,o021⟩:aF)⟩:Graph))
def fH:Nat→Int→(List (Int × Bool))→Graph→Option (Bool × (List (Int × Bool)) × Graph)
 |0,_,_,_=>none
 |n+1,at_,o_,graph=>kI (fH n) at_ o_ graph
def p9 (graph:Graph):Option (Bool × Graph):=
 (fH FUEL (-1) ([]:(List (Int × Bool))) graph).bind fun r_=>
 some (r_.1,(⟨graph.parts,r_.2.2.arcs⟩:Graph))
def xV (graph:Graph):(Int × (List Part))→Option (aS (Int × (List Part)) (Ex (List Part) (aS ((List (List Part)) × Int) (Ex (List (List Part)) (List (List Part)))))):=
 fun zz=>match zz with
 |(at_,way)=>
 bif (!decide (at_=(-2)))then
 bI ((2≠(0:Int))∧((0:Int)≤(IntKind.wrap .i64 (Int.tdiv at_ 2))∧(IntKind.wrap .i64 (Int.tdiv at_ 2))<(graph.parts.length:Int))∧((way.length+[(at' graph.parts ((IntKind.wrap .i64 (Int.tdiv at_ 2)).toNat))].length)*16≤140737488355328)∧(way.length+[(at' graph.parts ((IntKind.wrap .i64 (Int.tdiv at_ 2)).toNat))].length≤4611686018427387904)) (
 bI ((0:Int)≤0∧0<(((bn bV (IntKind.wrap .i64 (at_+1)) graph.arcs.e1).getD ([]:List Int)).length:Int)) (
 some (.next ((at' ((bn bV (IntKind.wrap .i64 (at_+1)) graph.arcs.e1).getD ([]:List Int)) 0),(way++[(at' graph.parts ((IntKind.wrap .i64 (Int.tdiv at_ 2)).toNat))])))))
 else
 some (.done (.brk way))
def x9 (graph:Graph):((List (List Part)) × Int)→Option (aS ((List (List Part)) × Int) (Ex (List (List Part)) (List (List Part)))):=
 fun zz=>match zz with
 |(out,t14)=>
 bif (decide (t14<(((bn bV (-1) graph.arcs.e1).getD ([]:List Int)).length:Int)))then
 bI ((0:Int)≤t14∧t14<(((bn bV (-1) graph.arcs.e1).getD ([]:List Int)).length:Int)) (
 Option.bind (aA (xV graph) FUEL ((at' ((bn bV (-1) graph.arcs.e1).getD ([]:List Int)) t14.toNat),([]:List Part))) fun o=>match o with
 | .ret v=>some v
 | .brk way1=>
 bI (((out.length+[way1].length)*24≤140737488355328)∧(out.length+[way1].length≤4611686018427387904)) (
 some (.next ((out++[way1]),(IntKind.wrap .i64 (t14+1))))))
 else
 some (.done (.brk out))
def sU (graph:Graph):Option (List (List Part)):=
 Option.bind (aA (x9 graph) FUEL (([]:List (List Part)),0)) fun o=>match o with
 | .ret v=>some v
 | .brk out1=>
 some out1
def DI (r_1:Graph):((List (Int × (List Int))) × (List (Int × (List Int))) × Int)→Option (aS ((List (Int × (List Int))) × (List (Int × (List Int))) × Int) (Ex ((List (Int × (List Int))) × (List (Int × (List Int)))) ((List (List Part)) × Int))):=
 fun zz=>match zz with
 |(g1,g2,t21)=>
 bif (decide (t21<2))then
 (p9 (⟨r_1.parts,(⟨g1,g2⟩:aF)⟩:Graph)).bind fun r_2=>
 bif (!r_2.1)then
 some (.done (.brk (r_2.2.arcs.e0,r_2.2.arcs.e1)))
 else
 some (.next (r_2.2.arcs.e0,r_2.2.arcs.e1,(IntKind.wrap .i64 (t21+1))))
 else
 some (.done (.brk (g1,g2)))
def Cb (p:ai) (s_:State) (rack:Int):Option ((List (List Part)) × Int):=
 (o7 p s_ rack).bind fun r_=>
 bif (!decide (r_=0))then
 some (([]:List (List Part)),r_)
 else
 (tC p s_ rack).bind fun r_1=>
 Option.bind (aA (DI r_1) FUEL (r_1.arcs.e0,r_1.arcs.e1,0)) fun o=>match o with
 | .ret v=>some v
 | .brk (g11,g21)=>
 (sU (⟨r_1.parts,(⟨g11,g21⟩:aF)⟩:Graph)).bind fun r_3=>
 some (r_3,0)
def qb (p:ai) (s_:State) (rack:Int):Option (Int × Int):=
 (Cb p s_ rack).bind fun r_=>
 some ((r_.1.length:Int),r_.2)
def jK (p:ai) (r_:((List Bool) × Int)):((List aN) × Int)→Option (aS ((List aN) × Int) (Ex (List aN) ((List aN) × Int))):=
 fun zz=>match zz with
 |(out,t26)=>
 bif (decide (t26<(p.racks.length:Int)))then
 bI ((0:Int)≤t26∧t26<(p.racks.length:Int)) (
 bI (gB [((decide (0≤(((at' p.racks t26.toNat).feeds).e0))),true)]=true→(0:Int)≤((at' p.racks t26.toNat).feeds).e0∧((at' p.racks t26.toNat).feeds).e0<(r_.1.length:Int)) (
 bI (gB [((decide (0≤(((at' p.racks t26.toNat).feeds).e1))),true)]=true→(0:Int)≤((at' p.racks t26.toNat).feeds).e1∧((at' p.racks t26.toNat).feeds).e1<(r_.1.length:Int)) (
 bI (((out.length+[(⟨(bif (decide (0≤(((at' p.racks t26.toNat).feeds).e0)))then(at' r_.1 ((((at' p.racks t26.toNat).feeds).e0).toNat))else false),(bif (decide (0≤(((at' p.racks t26.toNat).feeds).e1)))then(at' r_.1 ((((at' p.racks t26.toNat).feeds).e1).toNat))else false)⟩:aN)].length)*2≤140737488355328)∧(out.length+[(⟨(bif (decide (0≤(((at' p.racks t26.toNat).feeds).e0)))then(at' r_.1 ((((at' p.racks t26.toNat).feeds).e0).toNat))else false),(bif (decide (0≤(((at' p.racks t26.toNat).feeds).e1)))then(at' r_.1 ((((at' p.racks t26.toNat).feeds).e1).toNat))else false)⟩:aN)].length≤4611686018427387904)) (
 some (.next ((out++[(⟨(bif (decide (0≤(((at' p.racks t26.toNat).feeds).e0)))then(at' r_.1 ((((at' p.racks t26.toNat).feeds).e0).toNat))else false),(bif (decide (0≤(((at' p.racks t26.toNat).feeds).e1)))then(at' r_.1 ((((at' p.racks t26.toNat).feeds).e1).toNat))else false)⟩:aN)]),(IntKind.wrap .i64 (t26+1))))))))
 else
 some (.done (.brk out))
def uL (p:ai) (s_:State):Option ((List aN) × Int):=
 (dI p s_).bind fun r_=>
 bif (!decide (r_.2=0))then
 some (([]:List aN),r_.2)
 else
 Option.bind (aA (jK p r_) FUEL (([]:List aN),0)) fun o=>match o with
 | .ret v=>some v
 | .brk out1=>
 some (out1,0)
def jU (p:ai) (s_:State) (rack:Int):Option Bool:=
 (uL p s_).bind fun r_=>
 bI (((0:Int)≤rack∧rack<(r_.1.length:Int))∧(gB [((at' r_.1 rack.toNat).e0,false)]=true→(0:Int)≤rack∧rack<(r_.1.length:Int))) (
 some (bif (at' r_.1 rack.toNat).e0 then true else(at' r_.1 rack.toNat).e1))
def lJ (s_:State) (x:Part):Option Bool:=
 bI (((0:Int)≤x.kind∧x.kind<([([]:List Bool),s_.badBus,s_.badSource,s_.badLink].length:Int))∧((0:Int)≤x.index∧x.index<((at' [([]:List Bool),s_.badBus,s_.badSource,s_.badLink] x.kind.toNat).length:Int))) (
 some (at' (at' [([]:List Bool),s_.badBus,s_.badSource,s_.badLink] x.kind.toNat) x.index.toNat))
def kD (x:Part) (x1:(List Bool)) (x11:(List Bool)) (x12:(List Bool)) (x13:(List Bool)) (x14:(List Bool)) (x15:(List Bool)) (x16:(List Bool)):Option Bool:=
 (lJ (⟨x1,x11,x12,x13,x14,x15,x16⟩:State) x).bind fun r_=>
 some r_
def jb (s_:(List Part)) (f_:(List Bool)) (f_1:(List Bool)) (f_2:(List Bool)) (f_3:(List Bool)) (f_4:(List Bool)) (f_5:(List Bool)) (f_6:(List Bool)):Int→Option (aS Int (Ex Unit Int)):=
 fun t8=>
 bif (decide (t8<(s_.length:Int)))then
 (kD (at' s_ t8.toNat) f_ f_1 f_2 f_3 f_4 f_5 f_6).bind fun r_=>
 bI ((0:Int)≤t8∧t8<(s_.length:Int)) (
 bif r_ then
 some (.done (.ret t8))
 else
 some (.next (IntKind.wrap .i64 (t8+1))))
 else
 some (.done (.brk ()))
def iC (s_:(List Part)) (f_:(List Bool)) (f_1:(List Bool)) (f_2:(List Bool)) (f_3:(List Bool)) (f_4:(List Bool)) (f_5:(List Bool)) (f_6:(List Bool)):Option Int:=
 Option.bind (aA (jb s_ f_ f_1 f_2 f_3 f_4 f_5 f_6) FUEL (0)) fun o=>match o with
 | .ret v=>some v
 | .brk _=>
 some (-1)
def eX (del:(List Bool)) (del1:(List Bool)) (del2:(List Bool)) (del3:(List Bool)) (del4:(List Bool)) (del5:(List Bool)) (del6:(List Bool)):((List Part) × Int × Int)→Option (aS ((List Part) × Int × Int) (Ex ((List Part) × Int) (List Part))):=
 fun zz=>match zz with
 |(o_,i,j)=>
 bif (decide (j<(o_.length:Int)))then
 bI ((0:Int)≤j∧j<(o_.length:Int)) (
 (kD (at' o_ j.toNat) del del1 del2 del3 del4 del5 del6).bind fun r_1=>
 bif (!r_1)then
 bI ((0:Int)≤i∧i<(o_.length:Int)) (
 some (.next ((o_.set i.toNat (at' o_ j.toNat)),(IntKind.wrap .i64 (i+1)),(IntKind.wrap .i64 (j+1)))))
 else
 some (.next (o_,i,(IntKind.wrap .i64 (j+1)))))
 else
 some (.done (.brk (o_,i)))
def gG (s_:(List Part)) (del:(List Bool)) (del1:(List Bool)) (del2:(List Bool)) (del3:(List Bool)) (del4:(List Bool)) (del5:(List Bool)) (del6:(List Bool)):Option (List Part):=
 (iC s_ del del1 del2 del3 del4 del5 del6).bind fun r_=>
 bif (decide (r_=(-1)))then
 some s_
 else
 Option.bind (aA (eX del del1 del2 del3 del4 del5 del6) FUEL (s_,r_,(IntKind.wrap .i64 (r_+1)))) fun o=>match o with
 | .ret v=>some v
 | .brk (o_1,i1)=>
 bI ((0:Int)≤i1∧i1≤(o_1.length:Int)) (
 bI ((0:Int)≤i1∧i1≤((zX o_1 i1.toNat (⟨0,0⟩:Part)).length:Int)) (
 some ((zX o_1 i1.toNat (⟨0,0⟩:Part)).take i1.toNat)))
def gM (p:ai) (s_:State):Option (List Part):=
 (iY p).bind fun r_=>
 (gG r_.1 s_.closed s_.locked s_.badLink s_.on_ s_.badSource s_.earthed s_.badBus).bind fun r_1=>
 some r_1
def og (x:Part) (x1:Int) (x11:(List Source)) (x12:(List Link)) (x13:(List aT)) (x2:(List Bool)) (x21:(List Bool)) (x22:(List Bool)) (x23:(List Bool)) (x24:(List Bool)) (x25:(List Bool)) (x26:(List Bool)) (x3:Int):Option Bool:=
 (qA (⟨x1,x11,x12,x13⟩:ai) (⟨x2,x21,x22,x23,x24,x25,x26⟩:State) x).bind fun r_=>
 (jU (⟨x1,x11,x12,x13⟩:ai) r_.1 x3).bind fun r_1=>
 some r_1
def rT (s_:(List Part)) (f_:Int) (f_1:(List Source)) (f_2:(List Link)) (f_3:(List aT)) (f_4:(List Bool)) (f_5:(List Bool)) (f_6:(List Bool)) (f_7:(List Bool)) (f_8:(List Bool)) (f_9:(List Bool)) (f_10:(List Bool)) (f_11:Int):Int→Option (aS Int (Ex Unit Int)):=
 fun t8=>
 bif (decide (t8<(s_.length:Int)))then
 (og (at' s_ t8.toNat) f_ f_1 f_2 f_3 f_4 f_5 f_6 f_7 f_8 f_9 f_10 f_11).bind fun r_=>
 bI ((0:Int)≤t8∧t8<(s_.length:Int)) (
 bif r_ then
 some (.done (.ret t8))
 else
 some (.next (IntKind.wrap .i64 (t8+1))))
 else
 some (.done (.brk ()))
def nT (s_:(List Part)) (f_:Int) (f_1:(List Source)) (f_2:(List Link)) (f_3:(List aT)) (f_4:(List Bool)) (f_5:(List Bool)) (f_6:(List Bool)) (f_7:(List Bool)) (f_8:(List Bool)) (f_9:(List Bool)) (f_10:(List Bool)) (f_11:Int):Option Int:=
 Option.bind (aA (rT s_ f_ f_1 f_2 f_3 f_4 f_5 f_6 f_7 f_8 f_9 f_10 f_11) FUEL (0)) fun o=>match o with
 | .ret v=>some v
 | .brk _=>
 some (-1)
def j3 (a:(List Part)) (b:(List Part)):Int→Option (aS Int (Ex Unit Bool)):=
 fun i=>
 bif (decide (i<(a.length:Int)))then
 bI (((0:Int)≤i∧i<(a.length:Int))∧((0:Int)≤i∧i<(b.length:Int))) (
 bif (!((decide (((at' a i.toNat).kind)=((at' b i.toNat).kind))) && ((decide (((at' a i.toNat).index)=((at' b i.toNat).index))) && true)))then
 some (.done (.ret false))
 else
 some (.next (IntKind.wrap .i64 (i+1))))
 else
 some (.done (.brk ()))
def kE (a:(List Part)) (b:(List Part)):Option Bool:=
 bif (!decide ((a.length:Int)=(b.length:Int)))then
 some false
 else
 Option.bind (aA (j3 a b) FUEL (0)) fun o=>match o with
 | .ret v=>some v
 | .brk _=>
 some true
def lg (a:Int) (b:Int):Option Link:=
 some (⟨a,b,3,500,10,([]:List vH)⟩:Link)
def qR (sync:Int):Option (ai × State):=
 (lg 0 2).bind fun r_=>
 (lg 1 3).bind fun r_1=>
 (lg 2 3).bind fun r_2=>
 bI (((0:Int)≤3)∧((1:Int)*3≤281474976710656)∧((3:Int)≤9223372036854775807)∧((0:Int)≤2)∧((1:Int)*2≤281474976710656)∧((2:Int)≤9223372036854775807)∧((0:Int)≤4)∧((1:Int)*4≤281474976710656)∧((4:Int)≤9223372036854775807)) (
 some ((⟨4,[(⟨0,1,500,sync,20⟩:Source),(⟨1,1,500,sync,20⟩:Source)],[r_,r_1,r_2],[(⟨(⟨2,3⟩:ah),100,2⟩:aT)]⟩:ai),(⟨[true,true,false],(List.replicate 3 (false:Bool)),(List.replicate 3 (false:Bool)),[true,true],(List.replicate 2 (false:Bool)),(List.replicate 4 (false:Bool)),(List.replicate 4 (false:Bool))⟩:State)))
def z8 (a:(List Bool)) (b:(List Bool)):Int→Option (aS Int (Ex Unit Bool)):=
 fun i=>
 bif (decide (i<(a.length:Int)))then
 bI (((0:Int)≤i∧i<(a.length:Int))∧((0:Int)≤i∧i<(b.length:Int))) (
 bif (!((at' a i.toNat)==(at' b i.toNat)))then
 some (.done (.ret false))
 else
 some (.next (IntKind.wrap .i64 (i+1))))
 else
 some (.done (.brk ()))
def mI (a:(List Bool)) (b:(List Bool)):Option Bool:=
 bif (!decide ((a.length:Int)=(b.length:Int)))then
 some false
 else
 Option.bind (aA (z8 a b) FUEL (0)) fun o=>match o with
 | .ret v=>some v
 | .brk _=>
 some true
def uH (del:Int) (del1:(List Source)) (del2:(List Link)) (del3:(List aT)) (del4:(List Bool)) (del5:(List Bool)) (del6:(List Bool)) (del7:(List Bool)) (del8:(List Bool)) (del9:(List Bool)) (del10:(List Bool)) (del11:Int):((List Part) × Int × Int)→Option (aS ((List Part) × Int × Int) (Ex ((List Part) × Int) (List Part))):=
 fun zz=>match zz with
 |(o_,i,j)=>
 bif (decide (j<(o_.length:Int)))then
 bI ((0:Int)≤j∧j<(o_.length:Int)) (
 (og (at' o_ j.toNat) del del1 del2 del3 del4 del5 del6 del7 del8 del9 del10 del11).bind fun r_1=>
 bif (!r_1)then
 bI ((0:Int)≤i∧i<(o_.length:Int)) (
 some (.next ((o_.set i.toNat (at' o_ j.toNat)),(IntKind.wrap .i64 (i+1)),(IntKind.wrap .i64 (j+1)))))
 else
 some (.next (o_,i,(IntKind.wrap .i64 (j+1)))))
 else
 some (.done (.brk (o_,i)))
def o8 (s_:(List Part)) (del:Int) (del1:(List Source)) (del2:(List Link)) (del3:(List aT)) (del4:(List Bool)) (del5:(List Bool)) (del6:(List Bool)) (del7:(List Bool)) (del8:(List Bool)) (del9:(List Bool)) (del10:(List Bool)) (del11:Int):Option (List Part):=
 (nT s_ del del1 del2 del3 del4 del5 del6 del7 del8 del9 del10 del11).bind fun r_=>
 bif (decide (r_=(-1)))then
 some s_
 else
 Option.bind (aA (uH del del1 del2 del3 del4 del5 del6 del7 del8 del9 del10 del11) FUEL (s_,r_,(IntKind.wrap .i64 (r_+1)))) fun o=>match o with
 | .ret v=>some v
 | .brk (o_1,i1)=>
 bI ((0:Int)≤i1∧i1≤(o_1.length:Int)) (
 bI ((0:Int)≤i1∧i1≤((zX o_1 i1.toNat (⟨0,0⟩:Part)).length:Int)) (
 some ((zX o_1 i1.toNat (⟨0,0⟩:Part)).take i1.toNat)))
def nD (p:ai) (s_:State) (rack:Int):Option ((List Part) × Int):=
 (o7 p s_ rack).bind fun r_=>
 bif (!decide (r_=0))then
 some (([]:List Part),r_)
 else
 (jU p s_ rack).bind fun r_1=>
 bif (!r_1)then
 some (([]:List Part),0)
 else
 (gM p s_).bind fun r_2=>
 (o8 r_2 p.buses p.sources p.links p.racks s_.closed s_.locked s_.badLink s_.on_ s_.badSource s_.earthed s_.badBus rack).bind fun r_3=>
 some (r_3,0)
def qo:Option Bool:=
 (qR 1).bind fun r_=>
 (qb r_.1 r_.2 0).bind fun r_1=>
 (nD r_.1 r_.2 0).bind fun r_2=>
 bif (bif (bif (bif (!decide (r_1.2=0))then true else(!decide (r_2.2=0)))then true else(!decide (r_1.1=2)))then true else(!decide ((r_2.1.length:Int)=0)))then
 some false
 else
 bI ((0:Int)≤1∧1<(r_.2.closed.length:Int)) (
 (qb r_.1 (⟨(r_.2.closed.set 1 false),r_.2.locked,r_.2.badLink,r_.2.on_,r_.2.badSource,r_.2.earthed,r_.2.badBus⟩:State) 0).bind fun r_3=>
 (nD r_.1 (⟨(r_.2.closed.set 1 false),r_.2.locked,r_.2.badLink,r_.2.on_,r_.2.badSource,r_.2.earthed,r_.2.badBus⟩:State) 0).bind fun r_4=>
 bif (bif (bif (!decide (r_3.2=0))then true else(!decide (r_4.2=0)))then true else(!decide (r_3.1=1)))then
 some false
 else
 (kE r_4.1 [(⟨1,0⟩:Part),(⟨1,2⟩:Part),(⟨2,0⟩:Part),(⟨3,0⟩:Part)]).bind fun r_5=>
 bif (!r_5)then
 some false
 else
 bI ((0:Int)≤1∧1<((r_.2.closed.set 1 false).length:Int)) (
 (kS r_.1 (⟨((r_.2.closed.set 1 false).set 1 true),r_.2.locked,r_.2.badLink,r_.2.on_,r_.2.badSource,r_.2.earthed,r_.2.badBus⟩:State) [(⟨3,1,2⟩:Transfer)] [(⟨2,1⟩:Part)]).bind fun r_6=>
 bif (!decide (r_6.2=0))then
 some false
 else
 (mI r_6.1.closed [true,false,true]).bind fun r_7=>
 bif (!r_7)then
 some false
 else
 (qR 0).bind fun r_8=>
 bI ((0:Int)≤1∧1<(r_8.2.closed.length:Int)) (
 (fE r_8.1 (⟨(r_8.2.closed.set 1 false),r_8.2.locked,r_8.2.badLink,r_8.2.on_,r_8.2.badSource,r_8.2.earthed,r_8.2.badBus⟩:State) [(⟨3,(-1),2⟩:Transfer)]).bind fun r_9=>
 (fE r_8.1 (⟨[false,false,true],r_8.2.locked,r_8.2.badLink,r_8.2.on_,r_8.2.badSource,r_8.2.earthed,r_8.2.badBus⟩:State) [(⟨3,2,1⟩:Transfer),(⟨2,(-1),0⟩:Transfer)]).bind fun r_10=>
 bI ((0:Int)≤0∧0<(r_8.2.badLink.length:Int)) (
 (fE r_8.1 (⟨[true,false,false],r_8.2.locked,(r_8.2.badLink.set 0 true),r_8.2.on_,r_8.2.badSource,r_8.2.earthed,r_8.2.badBus⟩:State) [(⟨2,(-1),2⟩:Transfer),(⟨3,(-1),1⟩:Transfer)]).bind fun r_11=>
 bif (bif (bif (decide (r_9.2.2=0))then(decide (r_10.2.2=0))else false)then(decide (r_11.2.2=0))else false)then
 (oJ r_9.2.1 [0]).bind fun r_12=>
 bif (bif (bif r_12 then(decide ((r_9.1.closed.length:Int)=3))else false)then(at' r_9.1.closed 2)else false)then
 (oJ r_10.2.1 [0,1]).bind fun r_13=>
 bif r_13 then
 (mI r_10.1.closed [true,true,false]).bind fun r_14=>
 bif r_14 then
 (oJ r_11.2.1 [1,0]).bind fun r_15=>
 bif r_15 then
 (mI r_11.1.closed [true,true,true]).bind fun r_16=>
 bI (gB [((bif r_12 then(decide ((r_9.1.closed.length:Int)=3))else false),true)]=true→(0:Int)≤2∧2<(r_9.1.closed.length:Int)) (
 some r_16)
 else
 bI (gB [((bif r_12 then(decide ((r_9.1.closed.length:Int)=3))else false),true)]=true→(0:Int)≤2∧2<(r_9.1.closed.length:Int)) (
 some false)
 else
 bI (gB [((bif r_12 then(decide ((r_9.1.closed.length:Int)=3))else false),true)]=true→(0:Int)≤2∧2<(r_9.1.closed.length:Int)) (
 some false)
 else
 bI (gB [((bif r_12 then(decide ((r_9.1.closed.length:Int)=3))else false),true)]=true→(0:Int)≤2∧2<(r_9.1.closed.length:Int)) (
 some false)
 else
 bI (gB [((bif r_12 then(decide ((r_9.1.closed.length:Int)=3))else false),true)]=true→(0:Int)≤2∧2<(r_9.1.closed.length:Int)) (
 some false)
 else
 some false))))
def cu (l:(List Bool)):Option (List Bool):=
 bI ((l.length*1≤140737488355328)∧(l.length≤4611686018427387904)) (
 some l)
def iM (x:State):Option State:=
 (cu x.closed).bind fun r_=>
 (cu x.locked).bind fun r_1=>
 (cu x.badLink).bind fun r_2=>
 (cu x.on_).bind fun r_3=>
 (cu x.badSource).bind fun r_4=>
 (cu x.earthed).bind fun r_5=>
 (cu x.badBus).bind fun r_6=>
 some (⟨r_,r_1,r_2,r_3,r_4,r_5,r_6⟩:State)
def l9 (l:(List Transfer)):((List Transfer) × Int)→Option (aS ((List Transfer) × Int) (Ex (List Transfer) (List Transfer))):=
 fun zz=>match zz with
 |(out,i)=>
 bif (decide (i<(l.length:Int)))then
 bI (((0:Int)≤i∧i<(l.length:Int))∧((out.length+[(at' l i.toNat)].length)*24≤140737488355328)∧(out.length+[(at' l i.toNat)].length≤4611686018427387904)) (
 some (.next ((out++[(at' l i.toNat)]),(IntKind.wrap .i64 (i+1)))))
 else
 some (.done (.brk out))
def qI (l:(List Transfer)):Option (List Transfer):=
 Option.bind (aA (l9 l) FUEL (([]:List Transfer),0)) fun o=>match o with
 | .ret v=>some v
 | .brk out1=>
 some out1
def nV (x:Link):Int→Option (aS Int (Ex Unit Bool)):=
 fun i=>
 bif (decide (i<(x.trip.length:Int)))then
 bI ((0:Int)≤i∧i<(x.trip.length:Int)) (
 bif (bif (bif (bif (decide (((at' x.trip i.toNat).amps)<1))then true else(decide (1000000<((at' x.trip i.toNat).amps))))then true else(decide (((at' x.trip i.toNat).millis)<1)))then true else(decide (100000<((at' x.trip i.toNat).millis))))then
 some (.done (.ret false))
 else
 bI ((gB [((decide (0<i)),true)]=true→(0:Int)≤(IntKind.wrap .i64 (i - 1))∧(IntKind.wrap .i64 (i - 1))<(x.trip.length:Int))∧(gB [((decide (((at' x.trip i.toNat).amps)≤((at' x.trip ((IntKind.wrap .i64 (i - 1)).toNat)).amps))),false),((decide (0<i)),true)]=true→(0:Int)≤(IntKind.wrap .i64 (i - 1))∧(IntKind.wrap .i64 (i - 1))<(x.trip.length:Int))) (
 bif (bif (decide (0<i))then(bif (decide (((at' x.trip i.toNat).amps)≤((at' x.trip ((IntKind.wrap .i64 (i - 1)).toNat)).amps)))then true else(decide (((at' x.trip ((IntKind.wrap .i64 (i - 1)).toNat)).millis)≤((at' x.trip i.toNat).millis))))else false)then
 some (.done (.ret false))
 else
 some (.next (IntKind.wrap .i64 (i+1)))))
 else
 some (.done (.brk ()))
def rW (p:ai) (x:Link):Option Bool:=
 bif (bif (bif (bif (bif (bif (bif (bif (bif (bif (bif (decide (x.a<0))then true else(decide (p.buses≤x.a)))then true else(decide (x.b<0)))then true else(decide (p.buses≤x.b)))then true else(decide (x.a=x.b)))then true else(decide (x.kind<1)))then true else(decide (3<x.kind)))then true else(decide (x.most<1)))then true else(decide (100000<x.most)))then true else(decide (x.ohm<10)))then true else(decide (100000<x.ohm)))then
 some false
 else
 bif (bif (decide (6<(x.trip.length:Int)))then true else(bif (decide (0<(x.trip.length:Int)))then(!decide (x.kind=3))else false))then
 some false
 else
 Option.bind (aA (nV x) FUEL (0)) fun o=>match o with
 | .ret v=>some v
 | .brk _=>
 some true
def mq (p:ai):Int→Option (aS Int (Ex Unit Int)):=
 fun i=>
 bif (decide (i<(p.sources.length:Int)))then
 bI ((0:Int)≤i∧i<(p.sources.length:Int)) (
 bif (bif (bif (bif (bif (bif (bif (bif (bif (bif (decide (((at' p.sources i.toNat).bus)<0))then true else(decide (p.buses≤((at' p.sources i.toNat).bus))))then true else(decide (((at' p.sources i.toNat).kind)<1)))then true else(decide (3<((at' p.sources i.toNat).kind))))then true else(decide (((at' p.sources i.toNat).power)<1)))then true else(decide (100000<((at' p.sources i.toNat).power))))then true else(decide (((at' p.sources i.toNat).sync)<0)))then true else(decide (8<((at' p.sources i.toNat).sync))))then true else(decide (((at' p.sources i.toNat).ohm)<10)))then true else(decide (100000<((at' p.sources i.toNat).ohm))))then
 some (.done (.ret 11))
 else
 some (.next (IntKind.wrap .i64 (i+1))))
 else
 some (.done (.brk ()))
def mU (p:ai):Int→Option (aS Int (Ex Unit Int)):=
 fun i1=>
 bif (decide (i1<(p.links.length:Int)))then
 (rW p (at' p.links i1.toNat)).bind fun r_=>
 bI ((0:Int)≤i1∧i1<(p.links.length:Int)) (
 bif (!r_)then
 some (.done (.ret 12))
 else
 some (.next (IntKind.wrap .i64 (i1+1))))
 else
 some (.done (.brk ()))
def mG (p:ai):Int→Option (aS Int (Ex Unit Int)):=
 fun i2=>
 bif (decide (i2<(p.racks.length:Int)))then
 bI ((0:Int)≤i2∧i2<(p.racks.length:Int)) (
 bif (decide ((((at' p.racks i2.toNat).feeds).e1)=(-1)))then
 bif (bif (bif (bif (bif (bif (bif (bif (bif (decide ((((at' p.racks i2.toNat).feeds).e0)<0))then true else(decide (p.buses≤(((at' p.racks i2.toNat).feeds).e0))))then true else(decide ((((at' p.racks i2.toNat).feeds).e1)<(-1))))then true else(decide (p.buses≤(((at' p.racks i2.toNat).feeds).e1))))then true else(decide ((((at' p.racks i2.toNat).feeds).e0)=(((at' p.racks i2.toNat).feeds).e1))))then true else(decide (((at' p.racks i2.toNat).power)<1)))then true else(decide (100000<((at' p.racks i2.toNat).power))))then true else(decide (((at' p.racks i2.toNat).paths)<0)))then true else(decide (1<((at' p.racks i2.toNat).paths))))then
 some (.done (.ret 13))
 else
 some (.next (IntKind.wrap .i64 (i2+1)))
 else
 bif (bif (bif (bif (bif (bif (bif (bif (bif (decide ((((at' p.racks i2.toNat).feeds).e0)<0))then true else(decide (p.buses≤(((at' p.racks i2.toNat).feeds).e0))))then true else(decide ((((at' p.racks i2.toNat).feeds).e1)<(-1))))then true else(decide (p.buses≤(((at' p.racks i2.toNat).feeds).e1))))then true else(decide ((((at' p.racks i2.toNat).feeds).e0)=(((at' p.racks i2.toNat).feeds).e1))))then true else(decide (((at' p.racks i2.toNat).power)<1)))then true else(decide (100000<((at' p.racks i2.toNat).power))))then true else(decide (((at' p.racks i2.toNat).paths)<0)))then true else(decide (2<((at' p.racks i2.toNat).paths))))then
 some (.done (.ret 13))
 else
 some (.next (IntKind.wrap .i64 (i2+1))))
 else
 some (.done (.brk ()))
def kQ (p:ai):Option Int:=
 bif (bif (decide (p.buses<1))then true else(decide (24<p.buses)))then
 some 10
 else
 bif (decide (8<(p.sources.length:Int)))then
 some 11
 else
 Option.bind (aA (mq p) FUEL (0)) fun o=>match o with
 | .ret v=>some v
 | .brk _=>
 bif (decide (40<(p.links.length:Int)))then
 some 12
 else
 Option.bind (aA (mU p) FUEL (0)) fun o=>match o with
 | .ret v=>some v
 | .brk _=>
 bif (decide (24<(p.racks.length:Int)))then
 some 13
 else
 Option.bind (aA (mG p) FUEL (0)) fun o=>match o with
 | .ret v=>some v
 | .brk _=>
 some 0
def mR (p:ai) (s_:State):Int→Option (aS Int (Ex Unit Bool)):=
 fun i=>
 bif (decide (i<(p.links.length:Int)))then
 bI (((0:Int)≤i∧i<(p.links.length:Int))∧(gB [((decide (((at' p.links i.toNat).kind)=1)),true)]=true→(0:Int)≤i∧i<(s_.closed.length:Int))∧(gB [((!(at' s_.closed i.toNat)),false),((decide (((at' p.links i.toNat).kind)=1)),true)]=true→(0:Int)≤i∧i<(s_.locked.length:Int))) (
 bif (bif (decide (((at' p.links i.toNat).kind)=1))then(bif (!(at' s_.closed i.toNat))then true else(at' s_.locked i.toNat))else false)then
 some (.done (.ret false))
 else
 some (.next (IntKind.wrap .i64 (i+1))))
 else
 some (.done (.brk ()))
def qm (p:ai) (s_:State):Option Bool:=
 bif (bif (bif (bif (bif (bif (bif (!decide ((s_.closed.length:Int)=(p.links.length:Int)))then true else(!decide ((s_.locked.length:Int)=(p.links.length:Int))))then true else(!decide ((s_.badLink.length:Int)=(p.links.length:Int))))then true else(!decide ((s_.on_.length:Int)=(p.sources.length:Int))))then true else(!decide ((s_.badSource.length:Int)=(p.sources.length:Int))))then true else(!decide ((s_.earthed.length:Int)=p.buses)))then true else(!decide ((s_.badBus.length:Int)=p.buses)))then
 some false
 else
 Option.bind (aA (mR p s_) FUEL (0)) fun o=>match o with
 | .ret v=>some v
 | .brk _=>
 some true
def dA (p:ai) (s_:State):Option Int:=
 (kQ p).bind fun r_=>
 (bif gB [((decide (r_=0)),true)]then qm p s_ else some default).bind fun r_1=>
 bif (bif (decide (r_=0))then(!r_1)else false)then
 some 9
 else
 some r_
def nR (p:ai) (i:Int):Option Bool:=
 bI (gB [((bif (decide (0≤i))then(decide (i<(p.links.length:Int)))else false),true)]=true→(0:Int)≤i∧i<(p.links.length:Int)) (
 some (bif (bif (decide (0≤i))then(decide (i<(p.links.length:Int)))else false)then(!decide (((at' p.links i.toNat).kind)=1))else false))
def fA (p:ai) (l:(List Transfer)):Int→Option (aS Int (Ex Unit Int)):=
 fun i=>
 bif (decide (i<(l.length:Int)))then
 bI ((0:Int)≤i∧i<(l.length:Int)) (
 (bif gB [((bif (decide (((at' l i.toNat).watch)<0))then true else(decide (p.buses≤((at' l i.toNat).watch)))),false)]then nR p ((at' l i.toNat).close)else some default).bind fun r_1=>
 (bif gB [((!decide (((at' l i.toNat).open_)=(-1))),true),((bif (bif (decide (((at' l i.toNat).watch)<0))then true else(decide (p.buses≤((at' l i.toNat).watch))))then true else(!r_1)),false)]then nR p ((at' l i.toNat).open_)else some default).bind fun r_2=>
 bif (bif (bif (bif (decide (((at' l i.toNat).watch)<0))then true else(decide (p.buses≤((at' l i.toNat).watch))))then true else(!r_1))then true else(bif (!decide (((at' l i.toNat).open_)=(-1)))then(bif (!r_2)then true else(decide (((at' l i.toNat).open_)=((at' l i.toNat).close))))else false))then
 some (.done (.ret 1))
 else
 some (.next (IntKind.wrap .i64 (i+1))))
 else
 some (.done (.brk ()))
def cO (p:ai) (s_:State) (l:(List Transfer)):Option Int:=
 (dA p s_).bind fun r_=>
 bif (!decide (r_=0))then
 some r_
 else
 bif (decide (16<(l.length:Int)))then
 some 1
 else
 Option.bind (aA (fA p l) FUEL (0)) fun o=>match o with
 | .ret v=>some v
 | .brk _=>
 some 0
def kN (p:ai) (s_:State) (kz:Int):Option Bool:=
 bI (((0:Int)≤kz∧kz<(s_.on_.length:Int))∧(gB [((at' s_.on_ kz.toNat),true)]=true→(0:Int)≤kz∧kz<(s_.badSource.length:Int))∧(gB [((bif (at' s_.on_ kz.toNat)then(!(at' s_.badSource kz.toNat))else false),true)]=true→(0:Int)≤kz∧kz<(p.sources.length:Int))∧(gB [((bif (at' s_.on_ kz.toNat)then(!(at' s_.badSource kz.toNat))else false),true)]=true→(0:Int)≤(at' p.sources kz.toNat).bus∧(at' p.sources kz.toNat).bus<(s_.badBus.length:Int))) (
 some (bif (bif (at' s_.on_ kz.toNat)then(!(at' s_.badSource kz.toNat))else false)then(!(at' s_.badBus (((at' p.sources kz.toNat).bus).toNat)))else false))
def mV (p:ai) (s_:State) (i:Int):Option Bool:=
 bI (((0:Int)≤i∧i<(s_.closed.length:Int))∧(gB [((at' s_.closed i.toNat),true)]=true→(0:Int)≤i∧i<(s_.badLink.length:Int))∧(gB [((bif (at' s_.closed i.toNat)then(!(at' s_.badLink i.toNat))else false),true)]=true→(0:Int)≤i∧i<(p.links.length:Int))∧(gB [((bif (at' s_.closed i.toNat)then(!(at' s_.badLink i.toNat))else false),true)]=true→(0:Int)≤(at' p.links i.toNat).a∧(at' p.links i.toNat).a<(s_.badBus.length:Int))∧(gB [((bif (bif (at' s_.closed i.toNat)then(!(at' s_.badLink i.toNat))else false)then(!(at' s_.badBus (((at' p.links i.toNat).a).toNat)))else false),true)]=true→(0:Int)≤i∧i<(p.links.length:Int))∧(gB [((bif (bif (at' s_.closed i.toNat)then(!(at' s_.badLink i.toNat))else false)then(!(at' s_.badBus (((at' p.links i.toNat).a).toNat)))else false),true)]=true→(0:Int)≤(at' p.links i.toNat).b∧(at' p.links i.toNat).b<(s_.badBus.length:Int))) (
 some (bif (bif (bif (at' s_.closed i.toNat)then(!(at' s_.badLink i.toNat))else false)then(!(at' s_.badBus (((at' p.links i.toNat).a).toNat)))else false)then(!(at' s_.badBus (((at' p.links i.toNat).b).toNat)))else false))
def jy (p:ai) (s_:State) (b:Int):((List Bool) × Int)→Option (aS ((List Bool) × Int) (Ex (List Bool) (aS ((List Bool) × Int) (Ex (List Bool) (List Bool))))):=
 fun zz=>match zz with
 |(out2,i)=>
 bif (decide (i<(p.links.length:Int)))then
 bI ((0:Int)≤i∧i<(p.links.length:Int)) (
 (mV p s_ i).bind fun r_=>
 bI ((gB [(r_,true)]=true→(0:Int)≤(at' p.links i.toNat).a∧(at' p.links i.toNat).a<(out2.length:Int))∧(gB [((at' out2 (((at' p.links i.toNat).a).toNat)),false),(r_,true)]=true→(0:Int)≤(at' p.links i.toNat).b∧(at' p.links i.toNat).b<(out2.length:Int))) (
 bif (bif r_ then(bif (at' out2 (((at' p.links i.toNat).a).toNat))then true else(at' out2 (((at' p.links i.toNat).b).toNat)))else false)then
 bI ((0:Int)≤(at' p.links i.toNat).a∧(at' p.links i.toNat).a<(out2.length:Int)) (
 bI ((0:Int)≤(at' p.links i.toNat).b∧(at' p.links i.toNat).b<((out2.set (((at' p.links i.toNat).a).toNat) true).length:Int)) (
 some (.next (((out2.set (((at' p.links i.toNat).a).toNat) true).set (((at' p.links i.toNat).b).toNat) true),(IntKind.wrap .i64 (i+1))))))
 else
 some (.next (out2,(IntKind.wrap .i64 (i+1))))))
 else
 some (.done (.brk out2))
def jR (p:ai) (s_:State) (b:Int):((List Bool) × Int)→Option (aS ((List Bool) × Int) (Ex (List Bool) (List Bool))):=
 fun zz=>match zz with
 |(out,n)=>
 bif (decide (n<p.buses))then
 Option.bind (aA (jy p s_ b) FUEL (out,0)) fun o=>match o with
 | .ret v=>some v
 | .brk out3=>
 some (.next (out3,(IntKind.wrap .i64 (n+1))))
 else
 some (.done (.brk out))
def gH (p:ai) (s_:State) (b:Int):Option (List Bool):=
 bI (((0:Int)≤p.buses)∧((1:Int)*p.buses≤281474976710656)∧((p.buses:Int)≤9223372036854775807)) (
 bI ((0:Int)≤b∧b<((List.replicate p.buses.toNat (false:Bool)).length:Int)) (
 Option.bind (aA (jR p s_ b) FUEL (((List.replicate p.buses.toNat (false:Bool)).set b.toNat true),0)) fun o=>match o with
 | .ret v=>some v
 | .brk out1=>
 some out1))
def iL (p:ai) (r_2:(List Bool)):((List Bool) × Int)→Option (aS ((List Bool) × Int) (Ex (List Bool) (aS ((List Bool) × Int) (Ex (List Bool) ((List Bool) × Int))))):=
 fun zz=>match zz with
 |(out2,b)=>
 bif (decide (b<p.buses))then
 bI (((0:Int)≤b∧b<(out2.length:Int))∧(gB [((at' out2 b.toNat),false)]=true→(0:Int)≤b∧b<(r_2.length:Int))) (
 some (.next ((out2.set b.toNat (bif (at' out2 b.toNat)then true else(at' r_2 b.toNat))),(IntKind.wrap .i64 (b+1)))))
 else
 some (.done (.brk out2))
def iI (p:ai) (s_:State):((List Bool) × Int)→Option (aS ((List Bool) × Int) (Ex (List Bool) ((List Bool) × Int))):=
 fun zz=>match zz with
 |(out,kz)=>
 bif (decide (kz<(p.sources.length:Int)))then
 (kN p s_ kz).bind fun r_1=>
 bif (!r_1)then
 some (.next (out,(IntKind.wrap .i64 (kz+1))))
 else
 (gH p s_ ((at' p.sources kz.toNat).bus)).bind fun r_2=>
 bI ((0:Int)≤kz∧kz<(p.sources.length:Int)) (
 Option.bind (aA (iL p r_2) FUEL (out,0)) fun o=>match o with
 | .ret v=>some v
 | .brk out3=>
 some (.next (out3,(IntKind.wrap .i64 (kz+1)))))
 else
 some (.done (.brk out))
def eH (p:ai) (s_:State):Option ((List Bool) × Int):=
 (dA p s_).bind fun r_=>
 bif (!decide (r_=0))then
 some (([]:List Bool),r_)
 else
 bI (((0:Int)≤p.buses)∧((1:Int)*p.buses≤281474976710656)∧((p.buses:Int)≤9223372036854775807)) (
 Option.bind (aA (iI p s_) FUEL ((List.replicate p.buses.toNat (false:Bool)),0)) fun o=>match o with
 | .ret v=>some v
 | .brk out1=>
 some (out1,0))
def qB (a:Source) (b:Source):Option Bool:=
 some (bif (!decide (a.sync=b.sync))then true else(decide (a.sync=0)))
def gZ (p:ai) (s_:State) (i:Int):((List ah) × Int)→Option (aS ((List ah) × Int) (Ex (List ah) (aS ((List ah) × Int) (Ex (List ah) ((List ah) × Int))))):=
 fun zz=>match zz with
 |(out2,kz)=>
 bif (decide (kz<(p.sources.length:Int)))then
 (kN p s_ i).bind fun r_1=>
 (bif gB [(r_1,true)]then kN p s_ kz else some default).bind fun r_2=>
 (bif gB [((bif r_1 then r_2 else false),true)]then gH p s_ ((at' p.sources i.toNat).bus)else some default).bind fun r_3=>
 (bif gB [((bif (bif r_1 then r_2 else false)then(at' r_3 (((at' p.sources kz.toNat).bus).toNat))else false),true)]then qB (at' p.sources i.toNat) (at' p.sources kz.toNat)else some default).bind fun r_4=>
 bI ((gB [((bif r_1 then r_2 else false),true)]=true→(0:Int)≤i∧i<(p.sources.length:Int))∧(gB [((bif r_1 then r_2 else false),true)]=true→(0:Int)≤kz∧kz<(p.sources.length:Int))∧(gB [((bif r_1 then r_2 else false),true)]=true→(0:Int)≤(at' p.sources kz.toNat).bus∧(at' p.sources kz.toNat).bus<(r_3.length:Int))∧(gB [((bif (bif r_1 then r_2 else false)then(at' r_3 (((at' p.sources kz.toNat).bus).toNat))else false),true)]=true→(0:Int)≤i∧i<(p.sources.length:Int))∧(gB [((bif (bif r_1 then r_2 else false)then(at' r_3 (((at' p.sources kz.toNat).bus).toNat))else false),true)]=true→(0:Int)≤kz∧kz<(p.sources.length:Int))) (
 bif (bif (bif (bif r_1 then r_2 else false)then(at' r_3 (((at' p.sources kz.toNat).bus).toNat))else false)then r_4 else false)then
 bI (((out2.length+[(⟨i,kz⟩:ah)].length)*16≤140737488355328)∧(out2.length+[(⟨i,kz⟩:ah)].length≤4611686018427387904)) (
 some (.next ((out2++[(⟨i,kz⟩:ah)]),(IntKind.wrap .i64 (kz+1)))))
 else
 some (.next (out2,(IntKind.wrap .i64 (kz+1)))))
 else
 some (.done (.brk out2))
def ic (p:ai) (s_:State):((List ah) × Int)→Option (aS ((List ah) × Int) (Ex (List ah) ((List ah) × Int))):=
 fun zz=>match zz with
 |(out,i)=>
 bif (decide (i<(p.sources.length:Int)))then
 Option.bind (aA (gZ p s_ i) FUEL (out,(IntKind.wrap .i64 (i+1)))) fun o=>match o with
 | .ret v=>some v
 | .brk out3=>
 some (.next (out3,(IntKind.wrap .i64 (i+1))))
 else
 some (.done (.brk out))
def dR (p:ai) (s_:State):Option ((List ah) × Int):=
 (dA p s_).bind fun r_=>
 bif (!decide (r_=0))then
 some (([]:List ah),r_)
 else
 Option.bind (aA (ic p s_) FUEL (([]:List ah),0)) fun o=>match o with
 | .ret v=>some v
 | .brk out1=>
 some (out1,0)
def jP (p:ai) (s_:State) (r_:((List Bool) × Int)) (r_2:((List Bool) × Int)):(Bool × Int)→Option (aS (Bool × Int) (Ex Bool (State × Bool))):=
 fun zz=>match zz with
 |(can,b)=>
 bif (decide (b<p.buses))then
 bI (((0:Int)≤b∧b<(r_.1.length:Int))∧(gB [((at' r_.1 b.toNat),true)]=true→(0:Int)≤b∧b<(r_2.1.length:Int))∧(gB [((bif (at' r_.1 b.toNat)then(!(at' r_2.1 b.toNat))else false),false)]=true→(0:Int)≤b∧b<(r_2.1.length:Int))∧(gB [((at' r_2.1 b.toNat),true),((bif (at' r_.1 b.toNat)then(!(at' r_2.1 b.toNat))else false),false)]=true→(0:Int)≤b∧b<(s_.earthed.length:Int))∧(gB [((bif (at' r_2.1 b.toNat)then(at' s_.earthed b.toNat)else false),true),((bif (at' r_.1 b.toNat)then(!(at' r_2.1 b.toNat))else false),false)]=true→(0:Int)≤b∧b<(r_.1.length:Int))) (
 bif (bif (bif (at' r_.1 b.toNat)then(!(at' r_2.1 b.toNat))else false)then true else(bif (bif (at' r_2.1 b.toNat)then(at' s_.earthed b.toNat)else false)then(!(at' r_.1 b.toNat))else false))then
 some (.next (false,(IntKind.wrap .i64 (b+1))))
 else
 some (.next (can,(IntKind.wrap .i64 (b+1)))))
 else
 some (.done (.brk can))
def lX (r_3:((List ah) × Int)) (r_4:((List ah) × Int)) (i:Int):(Bool × Int)→Option (aS (Bool × Int) (Ex Bool (aS (Bool × Int) (Ex Bool (State × Bool))))):=
 fun zz=>match zz with
 |(there,kz)=>
 bif (decide (kz<(r_3.1.length:Int)))then
 bI ((gB [(there,false)]=true→(0:Int)≤kz∧kz<(r_3.1.length:Int))∧(gB [(there,false)]=true→(0:Int)≤i∧i<(r_4.1.length:Int))) (
 some (.next ((bif there then true else((decide (((at' r_3.1 kz.toNat).e0)=((at' r_4.1 i.toNat).e0))) && ((decide (((at' r_3.1 kz.toNat).e1)=((at' r_4.1 i.toNat).e1))) && true))),(IntKind.wrap .i64 (kz+1)))))
 else
 some (.done (.brk there))
def jF (r_3:((List ah) × Int)) (r_4:((List ah) × Int)):(Bool × Int)→Option (aS (Bool × Int) (Ex Bool (State × Bool))):=
 fun zz=>match zz with
 |(can2,i)=>
 bif (decide (i<(r_4.1.length:Int)))then
 Option.bind (aA (lX r_3 r_4 i) FUEL (false,0)) fun o=>match o with
 | .ret v=>some v
 | .brk there1=>
 some (.next ((bif can2 then there1 else false),(IntKind.wrap .i64 (i+1))))
 else
 some (.done (.brk can2))
def zx (p:ai) (s_:State) (r_:((List Bool) × Int)) (r_5:((List Bool) × Int)):(Bool × Int)→Option (aS (Bool × Int) (Ex Bool (State × Bool))):=
 fun zz=>match zz with
 |(can4,b1)=>
 bif (decide (b1<p.buses))then
 bI (((0:Int)≤b1∧b1<(r_.1.length:Int))∧(gB [((at' r_.1 b1.toNat),true)]=true→(0:Int)≤b1∧b1<(r_5.1.length:Int))∧(gB [((bif (at' r_.1 b1.toNat)then(!(at' r_5.1 b1.toNat))else false),false)]=true→(0:Int)≤b1∧b1<(r_5.1.length:Int))∧(gB [((at' r_5.1 b1.toNat),true),((bif (at' r_.1 b1.toNat)then(!(at' r_5.1 b1.toNat))else false),false)]=true→(0:Int)≤b1∧b1<(s_.earthed.length:Int))∧(gB [((bif (at' r_5.1 b1.toNat)then(at' s_.earthed b1.toNat)else false),true),((bif (at' r_.1 b1.toNat)then(!(at' r_5.1 b1.toNat))else false),false)]=true→(0:Int)≤b1∧b1<(r_.1.length:Int))) (
 bif (bif (bif (at' r_.1 b1.toNat)then(!(at' r_5.1 b1.toNat))else false)then true else(bif (bif (at' r_5.1 b1.toNat)then(at' s_.earthed b1.toNat)else false)then(!(at' r_.1 b1.toNat))else false))then
 some (.next (false,(IntKind.wrap .i64 (b1+1))))
 else
 some (.next (can4,(IntKind.wrap .i64 (b1+1)))))
 else
 some (.done (.brk can4))
def FN (r_6:((List ah) × Int)) (r_7:((List ah) × Int)) (i1:Int):(Bool × Int)→Option (aS (Bool × Int) (Ex Bool (aS (Bool × Int) (Ex Bool (State × Bool))))):=
 fun zz=>match zz with
 |(there2,kz1)=>
 bif (decide (kz1<(r_6.1.length:Int)))then
 bI ((gB [(there2,false)]=true→(0:Int)≤kz1∧kz1<(r_6.1.length:Int))∧(gB [(there2,false)]=true→(0:Int)≤i1∧i1<(r_7.1.length:Int))) (
 some (.next ((bif there2 then true else((decide (((at' r_6.1 kz1.toNat).e0)=((at' r_7.1 i1.toNat).e0))) && ((decide (((at' r_6.1 kz1.toNat).e1)=((at' r_7.1 i1.toNat).e1))) && true))),(IntKind.wrap .i64 (kz1+1)))))
 else
 some (.done (.brk there2))
def zA (r_6:((List ah) × Int)) (r_7:((List ah) × Int)):(Bool × Int)→Option (aS (Bool × Int) (Ex Bool (State × Bool))):=
 fun zz=>match zz with
 |(can6,i1)=>
 bif (decide (i1<(r_7.1.length:Int)))then
 Option.bind (aA (FN r_6 r_7 i1) FUEL (false,0)) fun o=>match o with
 | .ret v=>some v
 | .brk there3=>
 some (.next ((bif can6 then there3 else false),(IntKind.wrap .i64 (i1+1))))
 else
 some (.done (.brk can6))
def uN (p:ai) (s_:State) (x:Transfer):Option (State × Bool):=
 (eH p s_).bind fun r_=>
 (iM s_).bind fun r_1=>
 bI ((0:Int)≤x.close∧x.close<(r_1.closed.length:Int)) (
 bI (((0:Int)≤x.watch∧x.watch<(s_.badBus.length:Int))∧(gB [((!(at' s_.badBus x.watch.toNat)),true)]=true→(0:Int)≤x.watch∧x.watch<(r_.1.length:Int))∧(gB [((bif (!(at' s_.badBus x.watch.toNat))then(!(at' r_.1 x.watch.toNat))else false),true)]=true→(0:Int)≤x.close∧x.close<(s_.closed.length:Int))∧(gB [((bif (bif (!(at' s_.badBus x.watch.toNat))then(!(at' r_.1 x.watch.toNat))else false)then(!(at' s_.closed x.close.toNat))else false),true)]=true→(0:Int)≤x.close∧x.close<(s_.badLink.length:Int))∧(gB [((bif (bif (bif (!(at' s_.badBus x.watch.toNat))then(!(at' r_.1 x.watch.toNat))else false)then(!(at' s_.closed x.close.toNat))else false)then(!(at' s_.badLink x.close.toNat))else false),true)]=true→(0:Int)≤x.close∧x.close<(s_.locked.length:Int))) (
 bif (decide (0≤x.open_))then
 bI ((0:Int)≤x.open_∧x.open_<((r_1.closed.set x.close.toNat true).length:Int)) (
 bI ((gB [((bif (bif (bif (bif (!(at' s_.badBus x.watch.toNat))then(!(at' r_.1 x.watch.toNat))else false)then(!(at' s_.closed x.close.toNat))else false)then(!(at' s_.badLink x.close.toNat))else false)then(!(at' s_.locked x.close.toNat))else false),true)]=true→(0:Int)≤x.open_∧x.open_<(s_.badLink.length:Int))∧(gB [((bif (bif (bif (bif (bif (!(at' s_.badBus x.watch.toNat))then(!(at' r_.1 x.watch.toNat))else false)then(!(at' s_.closed x.close.toNat))else false)then(!(at' s_.badLink x.close.toNat))else false)then(!(at' s_.locked x.close.toNat))else false)then(!(at' s_.badLink x.open_.toNat))else false),true)]=true→(0:Int)≤x.open_∧x.open_<(s_.locked.length:Int))) (
 (eH p (⟨((r_1.closed.set x.close.toNat true).set x.open_.toNat false),r_1.locked,r_1.badLink,r_1.on_,r_1.badSource,r_1.earthed,r_1.badBus⟩:State)).bind fun r_2=>
 bI (gB [((bif (bif (bif (bif (bif (bif (!(at' s_.badBus x.watch.toNat))then(!(at' r_.1 x.watch.toNat))else false)then(!(at' s_.closed x.close.toNat))else false)then(!(at' s_.badLink x.close.toNat))else false)then(!(at' s_.locked x.close.toNat))else false)then(!(at' s_.badLink x.open_.toNat))else false)then(!(at' s_.locked x.open_.toNat))else false),true)]=true→(0:Int)≤x.watch∧x.watch<(r_2.1.length:Int)) (
 Option.bind (aA (jP p s_ r_ r_2) FUEL ((bif (bif (bif (bif (bif (bif (bif (!(at' s_.badBus x.watch.toNat))then(!(at' r_.1 x.watch.toNat))else false)then(!(at' s_.closed x.close.toNat))else false)then(!(at' s_.badLink x.close.toNat))else false)then(!(at' s_.locked x.close.toNat))else false)then(!(at' s_.badLink x.open_.toNat))else false)then(!(at' s_.locked x.open_.toNat))else false)then(at' r_2.1 x.watch.toNat)else false),0)) fun o=>match o with
 | .ret v=>some v
 | .brk can1=>
 (dR p s_).bind fun r_3=>
 (dR p (⟨((r_1.closed.set x.close.toNat true).set x.open_.toNat false),r_1.locked,r_1.badLink,r_1.on_,r_1.badSource,r_1.earthed,r_1.badBus⟩:State)).bind fun r_4=>
 Option.bind (aA (jF r_3 r_4) FUEL (can1,0)) fun o=>match o with
 | .ret v=>some v
 | .brk can3=>
 some ((⟨((r_1.closed.set x.close.toNat true).set x.open_.toNat false),r_1.locked,r_1.badLink,r_1.on_,r_1.badSource,r_1.earthed,r_1.badBus⟩:State),can3))))
 else
 (eH p (⟨(r_1.closed.set x.close.toNat true),r_1.locked,r_1.badLink,r_1.on_,r_1.badSource,r_1.earthed,r_1.badBus⟩:State)).bind fun r_5=>
 bI (gB [((bif (bif (bif (bif (!(at' s_.badBus x.watch.toNat))then(!(at' r_.1 x.watch.toNat))else false)then(!(at' s_.closed x.close.toNat))else false)then(!(at' s_.badLink x.close.toNat))else false)then(!(at' s_.locked x.close.toNat))else false),true)]=true→(0:Int)≤x.watch∧x.watch<(r_5.1.length:Int)) (
 Option.bind (aA (zx p s_ r_ r_5) FUEL ((bif (bif (bif (bif (bif (!(at' s_.badBus x.watch.toNat))then(!(at' r_.1 x.watch.toNat))else false)then(!(at' s_.closed x.close.toNat))else false)then(!(at' s_.badLink x.close.toNat))else false)then(!(at' s_.locked x.close.toNat))else false)then(at' r_5.1 x.watch.toNat)else false),0)) fun o=>match o with
 | .ret v=>some v
 | .brk can5=>
 (dR p s_).bind fun r_6=>
 (dR p (⟨(r_1.closed.set x.close.toNat true),r_1.locked,r_1.badLink,r_1.on_,r_1.badSource,r_1.earthed,r_1.badBus⟩:State)).bind fun r_7=>
 Option.bind (aA (zA r_6 r_7) FUEL (can5,0)) fun o=>match o with
 | .ret v=>some v
 | .brk can7=>
 some ((⟨(r_1.closed.set x.close.toNat true),r_1.locked,r_1.badLink,r_1.on_,r_1.badSource,r_1.earthed,r_1.badBus⟩:State),can7))))
def iR (order:(List Int)) (i:Int):(Bool × Int)→Option (aS (Bool × Int) (Ex Bool (aS Int (Ex ((List Bool) × (List Bool) × (List Bool) × (List Bool) × (List Bool) × (List Bool) × (List Bool) × (List Int)) (aS ((List Bool) × (List Bool) × (List Bool) × (List Bool) × (List Bool) × (List Bool) × (List Bool) × (List Int) × Int) (Ex ((List Bool) × (List Bool) × (List Bool) × (List Bool) × (List Bool) × (List Bool) × (List Bool) × (List Int)) (State × (List Int) × Int))))))):=
 fun zz=>match zz with
 |(done,kz)=>
 bif (decide (kz<(order.length:Int)))then
 bI (gB [(done,false)]=true→(0:Int)≤kz∧kz<(order.length:Int)) (
 some (.next ((bif done then true else(decide ((at' order kz.toNat)=i))),(IntKind.wrap .i64 (kz+1)))))
 else
 some (.done (.brk done))
def lG (p:ai) (l:(List Transfer)) (now0:(List Bool)) (now1:(List Bool)) (now2:(List Bool)) (now3:(List Bool)) (now4:(List Bool)) (now5:(List Bool)) (now6:(List Bool)) (order:(List Int)):Int→Option (aS Int (Ex ((List Bool) × (List Bool) × (List Bool) × (List Bool) × (List Bool) × (List Bool) × (List Bool) × (List Int)) (aS ((List Bool) × (List Bool) × (List Bool) × (List Bool) × (List Bool) × (List Bool) × (List Bool) × (List Int) × Int) (Ex ((List Bool) × (List Bool) × (List Bool) × (List Bool) × (List Bool) × (List Bool) × (List Bool) × (List Int)) (State × (List Int) × Int))))):=
 fun i=>
 bif (decide (i<(l.length:Int)))then
 Option.bind (aA (iR order i) FUEL (false,0)) fun o=>match o with
 | .ret v=>some v
 | .brk done1=>
 (uN p (⟨now0,now1,now2,now3,now4,now5,now6⟩:State) (at' l i.toNat)).bind fun r_2=>
 bI ((0:Int)≤i∧i<(l.length:Int)) (
 bif (bif (!done1)then r_2.2 else false)then
 bI (((order.length+[i].length)*8≤140737488355328)∧(order.length+[i].length≤4611686018427387904)) (
 some (.done (.brk (r_2.1.closed,r_2.1.locked,r_2.1.badLink,r_2.1.on_,r_2.1.badSource,r_2.1.earthed,r_2.1.badBus,(order++[i])))))
 else
 some (.next (IntKind.wrap .i64 (i+1))))
 else
 some (.done (.brk (now0,now1,now2,now3,now4,now5,now6,order)))
def fJ (p:ai) (l:(List Transfer)):((List Bool) × (List Bool) × (List Bool) × (List Bool) × (List Bool) × (List Bool) × (List Bool) × (List Int) × Int)→Option (aS ((List Bool) × (List Bool) × (List Bool) × (List Bool) × (List Bool) × (List Bool) × (List Bool) × (List Int) × Int) (Ex ((List Bool) × (List Bool) × (List Bool) × (List Bool) × (List Bool) × (List Bool) × (List Bool) × (List Int)) (State × (List Int) × Int))):=
 fun zz=>match zz with
 |(now0,now1,now2,now3,now4,now5,now6,order,n)=>
 bif (decide (n<(l.length:Int)))then
 Option.bind (aA (lG p l now0 now1 now2 now3 now4 now5 now6 order) FUEL (0)) fun o=>match o with
 | .ret v=>some v
 | .brk (now02,now12,now22,now32,now42,now52,now62,order2)=>
 some (.next (now02,now12,now22,now32,now42,now52,now62,order2,(IntKind.wrap .i64 (n+1))))
 else
 some (.done (.brk (now0,now1,now2,now3,now4,now5,now6,order)))
def mg (p:ai) (s_:State) (l:(List Transfer)):Option (State × (List Int) × Int):=
 (cO p s_ l).bind fun r_=>
 bif (!decide (r_=0))then
 some ((⟨([]:List Bool),([]:List Bool),([]:List Bool),([]:List Bool),([]:List Bool),([]:List Bool),([]:List Bool)⟩:State),([]:List Int),r_)
 else
 (iM s_).bind fun r_1=>
 Option.bind (aA (fJ p l) FUEL (r_1.closed,r_1.locked,r_1.badLink,r_1.on_,r_1.badSource,r_1.earthed,r_1.badBus,([]:List Int),0)) fun o=>match o with
 | .ret v=>some v
 | .brk (now01,now11,now21,now31,now41,now51,now61,order1)=>
 some ((⟨now01,now11,now21,now31,now41,now51,now61⟩:State),order1,0)
def mP (l:(List Bool)) (i:Int) (is:Bool):Option (List Bool):=
 bI (((([]:List Bool).length+l.length)*1≤140737488355328)∧(([]:List Bool).length+l.length≤4611686018427387904)) (
 bI ((0:Int)≤i∧i<((([]:List Bool)++l).length:Int)) (
 some ((([]:List Bool)++l).set i.toNat is)))
def lQ (p:ai) (s_:State) (x:Part) (is:Bool):Option (State × Int):=
 (dA p s_).bind fun r_=>
 bif (!decide (r_=0))then
 some ((⟨([]:List Bool),([]:List Bool),([]:List Bool),([]:List Bool),([]:List Bool),([]:List Bool),([]:List Bool)⟩:State),r_)
 else
 bif (decide (x.index<0))then
 some ((⟨([]:List Bool),([]:List Bool),([]:List Bool),([]:List Bool),([]:List Bool),([]:List Bool),([]:List Bool)⟩:State),14)
 else
 bif (bif (decide (x.kind=1))then(decide (x.index<p.buses))else false)then
 (mP s_.badBus x.index is).bind fun r_1=>
 some ((⟨s_.closed,s_.locked,s_.badLink,s_.on_,s_.badSource,s_.earthed,r_1⟩:State),0)
 else
 bif (bif (decide (x.kind=2))then(decide (x.index<(p.sources.length:Int)))else false)then
 (mP s_.badSource x.index is).bind fun r_2=>
 some ((⟨s_.closed,s_.locked,s_.badLink,s_.on_,r_2,s_.earthed,s_.badBus⟩:State),0)
 else
 bif (bif (decide (x.kind=3))then(decide (x.index<(p.links.length:Int)))else false)then
 (mP s_.badLink x.index is).bind fun r_3=>
 some ((⟨s_.closed,s_.locked,r_3,s_.on_,s_.badSource,s_.earthed,s_.badBus⟩:State),0)
 else
 some ((⟨([]:List Bool),([]:List Bool),([]:List Bool),([]:List Bool),([]:List Bool),([]:List Bool),([]:List Bool)⟩:State),14)
def jA (p:ai) (parts:(List Part)):((List Bool) × (List Bool) × (List Bool) × (List Bool) × (List Bool) × (List Bool) × (List Bool) × Int)→Option (aS ((List Bool) × (List Bool) × (List Bool) × (List Bool) × (List Bool) × (List Bool) × (List Bool) × Int) (Ex ((List Bool) × (List Bool) × (List Bool) × (List Bool) × (List Bool) × (List Bool) × (List Bool)) (State × Int))):=
 fun zz=>match zz with
 |(now0,now1,now2,now3,now4,now5,now6,i)=>
 bif (decide (i<(parts.length:Int)))then
 (lQ p (⟨now0,now1,now2,now3,now4,now5,now6⟩:State) (at' parts i.toNat) true).bind fun r_1=>
 bI ((0:Int)≤i∧i<(parts.length:Int)) (
 bif (!decide (r_1.2=0))then
 some (.done (.ret ((⟨([]:List Bool),([]:List Bool),([]:List Bool),([]:List Bool),([]:List Bool),([]:List Bool),([]:List Bool)⟩:State),r_1.2)))
 else
 some (.next (r_1.1.closed,r_1.1.locked,r_1.1.badLink,r_1.1.on_,r_1.1.badSource,r_1.1.earthed,r_1.1.badBus,(IntKind.wrap .i64 (i+1)))))
 else
 some (.done (.brk (now0,now1,now2,now3,now4,now5,now6)))
def kP (p:ai) (s_:State) (l:(List Transfer)) (parts:(List Part)):Option (State × Int):=
 (cO p s_ l).bind fun r_=>
 bif (!decide (r_=0))then
 some ((⟨([]:List Bool),([]:List Bool),([]:List Bool),([]:List Bool),([]:List Bool),([]:List Bool),([]:List Bool)⟩:State),r_)
 else
 Option.bind (aA (jA p parts) FUEL (s_.closed,s_.locked,s_.badLink,s_.on_,s_.badSource,s_.earthed,s_.badBus,0)) fun o=>match o with
 | .ret v=>some v
 | .brk (now01,now11,now21,now31,now41,now51,now61)=>
 (mg p (⟨now01,now11,now21,now31,now41,now51,now61⟩:State) l).bind fun r_2=>
 some (r_2.1,0)
def kL (p:ai) (r_:(State × Int)):((List Int) × Int)→Option (aS ((List Int) × Int) (Ex (List Int) ((List Int) × Int))):=
 fun zz=>match zz with
 |(out,t29)=>
 bif (decide (t29<(p.racks.length:Int)))then
 bI ((0:Int)≤t29∧t29<(p.racks.length:Int)) (
 (bif gB [((decide (0<((at' p.racks t29.toNat).paths))),true)]then jU p r_.1 t29 else some default).bind fun r_1=>
 bif (bif (decide (0<((at' p.racks t29.toNat).paths)))then(!r_1)else false)then
 bI (((out.length+[t29].length)*8≤140737488355328)∧(out.length+[t29].length≤4611686018427387904)) (
 some (.next ((out++[t29]),(IntKind.wrap .i64 (t29+1)))))
 else
 some (.next (out,(IntKind.wrap .i64 (t29+1)))))
 else
 some (.done (.brk out))
def mo (p:ai) (s_:State) (l:(List Transfer)) (parts:(List Part)):Option ((List Int) × Int):=
 (kS p s_ l parts).bind fun r_=>
 bif (!decide (r_.2=0))then
 some (([]:List Int),r_.2)
 else
 Option.bind (aA (kL p r_) FUEL (([]:List Int),0)) fun o=>match o with
 | .ret v=>some v
 | .brk out1=>
 some (out1,0)
def jM (p:ai) (r_:((List Bool) × Int)):((List aN) × Int)→Option (aS ((List aN) × Int) (Ex (List aN) ((List aN) × Int))):=
 fun zz=>match zz with
 |(out,r_1)=>
 bif (decide (r_1<(p.racks.length:Int)))then
 bI ((0:Int)≤r_1∧r_1<(p.racks.length:Int)) (
 bI (((0:Int)≤((at' p.racks r_1.toNat).feeds).e0∧((at' p.racks r_1.toNat).feeds).e0<(r_.1.length:Int))∧(gB [((decide (0≤(((at' p.racks r_1.toNat).feeds).e1))),true)]=true→(0:Int)≤(if((at' p.racks r_1.toNat).feeds).e1<0 then 0 else((at' p.racks r_1.toNat).feeds).e1)∧(if((at' p.racks r_1.toNat).feeds).e1<0 then 0 else((at' p.racks r_1.toNat).feeds).e1)<(r_.1.length:Int))∧((out.length+[(⟨(at' r_.1 ((((at' p.racks r_1.toNat).feeds).e0).toNat)),(bif (decide (0≤(((at' p.racks r_1.toNat).feeds).e1)))then(at' r_.1 ((if((at' p.racks r_1.toNat).feeds).e1<0 then 0 else((at' p.racks r_1.toNat).feeds).e1).toNat))else false)⟩:aN)].length)*2≤140737488355328)∧(out.length+[(⟨(at' r_.1 ((((at' p.racks r_1.toNat).feeds).e0).toNat)),(bif (decide (0≤(((at' p.racks r_1.toNat).feeds).e1)))then(at' r_.1 ((if((at' p.racks r_1.toNat).feeds).e1<0 then 0 else((at' p.racks r_1.toNat).feeds).e1).toNat))else false)⟩:aN)].length≤4611686018427387904)) (
 some (.next ((out++[(⟨(at' r_.1 ((((at' p.racks r_1.toNat).feeds).e0).toNat)),(bif (decide (0≤(((at' p.racks r_1.toNat).feeds).e1)))then(at' r_.1 ((if((at' p.racks r_1.toNat).feeds).e1<0 then 0 else((at' p.racks r_1.toNat).feeds).e1).toNat))else false)⟩:aN)]),(IntKind.wrap .i64 (r_1+1))))))
 else
 some (.done (.brk out))
def uS (p:ai) (s_:State):Option ((List aN) × Int):=
 (eH p s_).bind fun r_=>
 bif (!decide (r_.2=0))then
 some (([]:List aN),r_.2)
 else
 Option.bind (aA (jM p r_) FUEL (([]:List aN),0)) fun o=>match o with
 | .ret v=>some v
 | .brk out1=>
 some (out1,0)
def oq (p:ai) (s_:State) (rack:Int):Option Bool:=
 (uS p s_).bind fun r_=>
 bI (((0:Int)≤rack∧rack<(r_.1.length:Int))∧(gB [((at' r_.1 rack.toNat).e0,false)]=true→(0:Int)≤rack∧rack<(r_.1.length:Int))) (
 some (bif (at' r_.1 rack.toNat).e0 then true else(at' r_.1 rack.toNat).e1))
def kM (p:ai) (r_:(State × Int)):((List Int) × Int)→Option (aS ((List Int) × Int) (Ex (List Int) ((List Int) × Int))):=
 fun zz=>match zz with
 |(out,r_1)=>
 bif (decide (r_1<(p.racks.length:Int)))then
 (bif gB [((decide (1≤((at' p.racks r_1.toNat).paths))),true)]then oq p r_.1 r_1 else some default).bind fun r_2=>
 bI ((0:Int)≤r_1∧r_1<(p.racks.length:Int)) (
 bif (bif (decide (1≤((at' p.racks r_1.toNat).paths)))then(!r_2)else false)then
 bI (((out.length+[r_1].length)*8≤140737488355328)∧(out.length+[r_1].length≤4611686018427387904)) (
 some (.next ((out++[r_1]),(IntKind.wrap .i64 (r_1+1)))))
 else
 some (.next (out,(IntKind.wrap .i64 (r_1+1)))))
 else
 some (.done (.brk out))
def pK (p:ai) (s_:State) (l:(List Transfer)) (parts:(List Part)):Option ((List Int) × Int):=
 (kP p s_ l parts).bind fun r_=>
 bif (!decide (r_.2=0))then
 some (([]:List Int),r_.2)
 else
 Option.bind (aA (kM p r_) FUEL (([]:List Int),0)) fun o=>match o with
 | .ret v=>some v
 | .brk out1=>
 some (out1,0)
def uQ (p:ai):Option Bool:=
 bif (bif (bif (decide (60<(p.sources.length:Int)))then true else(decide (60<(p.links.length:Int))))then true else(decide (60<(p.racks.length:Int))))then
 some true
 else
 (kQ p).bind fun r_=>
 some (bif (decide (r_=0))then(bif (decide (7<p.buses))then true else(decide (12<(p.links.length:Int))))else false)
def gY (p:ai) (s_:State) (l:(List Transfer)) (t26:Int) (r_2:(List Part)):((List aI) × Int)→Option (aS ((List aI) × Int) (Ex (List aI) (aS ((List aI) × Int) (Ex (List aI) ((List aI) × Int))))):=
 fun zz=>match zz with
 |(out2,t53)=>
 bif (decide (t53<(r_2.length:Int)))then
 bI ((0:Int)≤t53∧t53<(r_2.length:Int)) (
 (kS p s_ l [(at' r_2 t53.toNat)]).bind fun r_3=>
 (jU p r_3.1 t26).bind fun r_4=>
 bif (!r_4)then
 bI (((out2.length+[(⟨t26,(at' r_2 t53.toNat)⟩:aI)].length)*24≤140737488355328)∧(out2.length+[(⟨t26,(at' r_2 t53.toNat)⟩:aI)].length≤4611686018427387904)) (
 some (.next ((out2++[(⟨t26,(at' r_2 t53.toNat)⟩:aI)]),(IntKind.wrap .i64 (t53+1)))))
 else
 some (.next (out2,(IntKind.wrap .i64 (t53+1)))))
 else
 some (.done (.brk out2))
def fo (p:ai) (s_:State) (l:(List Transfer)):((List aI) × Int)→Option (aS ((List aI) × Int) (Ex (List aI) ((List aI) × Int))):=
 fun zz=>match zz with
 |(out,t26)=>
 bif (decide (t26<(p.racks.length:Int)))then
 bI ((0:Int)≤t26∧t26<(p.racks.length:Int)) (
 (bif gB [((decide (0<((at' p.racks t26.toNat).paths))),true)]then jU p s_ t26 else some default).bind fun r_1=>
 bif (bif (decide (0<((at' p.racks t26.toNat).paths)))then(!r_1)else false)then
 bI (((out.length+[(⟨t26,(⟨0,0⟩:Part)⟩:aI)].length)*24≤140737488355328)∧(out.length+[(⟨t26,(⟨0,0⟩:Part)⟩:aI)].length≤4611686018427387904)) (
 some (.next ((out++[(⟨t26,(⟨0,0⟩:Part)⟩:aI)]),(IntKind.wrap .i64 (t26+1)))))
 else
 bif (decide (((at' p.racks t26.toNat).paths)<2))then
 some (.next (out,(IntKind.wrap .i64 (t26+1))))
 else
 (gM p s_).bind fun r_2=>
 Option.bind (aA (gY p s_ l t26 r_2) FUEL (out,0)) fun o=>match o with
 | .ret v=>some v
 | .brk out3=>
 some (.next (out3,(IntKind.wrap .i64 (t26+1)))))
 else
 some (.done (.brk out))
def iK (p:ai) (s_:State) (l:(List Transfer)):Option ((List aI) × Int):=
 (cZ p s_ l).bind fun r_=>
 bif (!decide (r_=0))then
 some (([]:List aI),r_)
 else
 Option.bind (aA (fo p s_ l) FUEL (([]:List aI),0)) fun o=>match o with
 | .ret v=>some v
 | .brk out1=>
 some (out1,0)
def gT (p:ai):((List Part) × Int)→Option (aS ((List Part) × Int) (Ex (List Part) ((List Part) × Int))):=
 fun zz=>match zz with
 |(out,i)=>
 bif (decide (i<p.buses))then
 bI (((out.length+[(⟨1,i⟩:Part)].length)*16≤140737488355328)∧(out.length+[(⟨1,i⟩:Part)].length≤4611686018427387904)) (
 some (.next ((out++[(⟨1,i⟩:Part)]),(IntKind.wrap .i64 (i+1)))))
 else
 some (.done (.brk out))
def jJ (p:ai):((List Part) × Int)→Option (aS ((List Part) × Int) (Ex (List Part) ((List Part) × Int))):=
 fun zz=>match zz with
 |(out2,i1)=>
 bif (decide (i1<(p.sources.length:Int)))then
 bI (((out2.length+[(⟨2,i1⟩:Part)].length)*16≤140737488355328)∧(out2.length+[(⟨2,i1⟩:Part)].length≤4611686018427387904)) (
 some (.next ((out2++[(⟨2,i1⟩:Part)]),(IntKind.wrap .i64 (i1+1)))))
 else
 some (.done (.brk out2))
def jL (p:ai):((List Part) × Int)→Option (aS ((List Part) × Int) (Ex (List Part) ((List Part) × Int))):=
 fun zz=>match zz with
 |(out4,i2)=>
 bif (decide (i2<(p.links.length:Int)))then
 bI (((out4.length+[(⟨3,i2⟩:Part)].length)*16≤140737488355328)∧(out4.length+[(⟨3,i2⟩:Part)].length≤4611686018427387904)) (
 some (.next ((out4++[(⟨3,i2⟩:Part)]),(IntKind.wrap .i64 (i2+1)))))
 else
 some (.done (.brk out4))
def nM (p:ai):Option ((List Part) × Int):=
 (kQ p).bind fun r_=>
 bif (!decide (r_=0))then
 some (([]:List Part),r_)
 else
 Option.bind (aA (gT p) FUEL (([]:List Part),0)) fun o=>match o with
 | .ret v=>some v
 | .brk out1=>
 Option.bind (aA (jJ p) FUEL (out1,0)) fun o=>match o with
 | .ret v=>some v
 | .brk out3=>
 Option.bind (aA (jL p) FUEL (out3,0)) fun o=>match o with
 | .ret v=>some v
 | .brk out5=>
 some (out5,0)
def mD (s_:State) (r_:((List Part) × Int)):((List Part) × Int)→Option (aS ((List Part) × Int) (Ex (List Part) (List Part))):=
 fun zz=>match zz with
 |(out,i)=>
 bif (decide (i<(r_.1.length:Int)))then
 bI ((0:Int)≤i∧i<(r_.1.length:Int)) (
 bI ((gB [((decide (((at' r_.1 i.toNat).kind)=1)),true)]=true→(0:Int)≤(at' r_.1 i.toNat).index∧(at' r_.1 i.toNat).index<(s_.badBus.length:Int))∧(gB [((decide (((at' r_.1 i.toNat).kind)=2)),true),((bif (decide (((at' r_.1 i.toNat).kind)=1))then(!(at' s_.badBus (((at' r_.1 i.toNat).index).toNat)))else false),false)]=true→(0:Int)≤(at' r_.1 i.toNat).index∧(at' r_.1 i.toNat).index<(s_.badSource.length:Int))∧(gB [((decide (((at' r_.1 i.toNat).kind)=3)),true),((bif (bif (decide (((at' r_.1 i.toNat).kind)=1))then(!(at' s_.badBus (((at' r_.1 i.toNat).index).toNat)))else false)then true else(bif (decide (((at' r_.1 i.toNat).kind)=2))then(!(at' s_.badSource (((at' r_.1 i.toNat).index).toNat)))else false)),false)]=true→(0:Int)≤(at' r_.1 i.toNat).index∧(at' r_.1 i.toNat).index<(s_.badLink.length:Int))) (
 bif (bif (bif (bif (decide (((at' r_.1 i.toNat).kind)=1))then(!(at' s_.badBus (((at' r_.1 i.toNat).index).toNat)))else false)then true else(bif (decide (((at' r_.1 i.toNat).kind)=2))then(!(at' s_.badSource (((at' r_.1 i.toNat).index).toNat)))else false))then true else(bif (decide (((at' r_.1 i.toNat).kind)=3))then(!(at' s_.badLink (((at' r_.1 i.toNat).index).toNat)))else false))then
 bI (((out.length+[(at' r_.1 i.toNat)].length)*16≤140737488355328)∧(out.length+[(at' r_.1 i.toNat)].length≤4611686018427387904)) (
 some (.next ((out++[(at' r_.1 i.toNat)]),(IntKind.wrap .i64 (i+1)))))
 else
 some (.next (out,(IntKind.wrap .i64 (i+1))))))
 else
 some (.done (.brk out))
def nP (p:ai) (s_:State):Option (List Part):=
 (nM p).bind fun r_=>
 Option.bind (aA (mD s_ r_) FUEL (([]:List Part),0)) fun o=>match o with
 | .ret v=>some v
 | .brk out1=>
 some out1
def dX (p:ai) (s_:State) (l:(List Transfer)) (r_1:(List Part)) (r_2:Int):((List aI) × Int)→Option (aS ((List aI) × Int) (Ex (List aI) (aS ((List aI) × Int) (Ex (List aI) ((List aI) × Int))))):=
 fun zz=>match zz with
 |(out2,i)=>
 bif (bif (decide (i<(r_1.length:Int)))then(decide (((at' p.racks r_2.toNat).paths)=2))else false)then
 (kP p s_ l [(at' r_1 i.toNat)]).bind fun r_4=>
 bI ((0:Int)≤i∧i<(r_1.length:Int)) (
 (oq p r_4.1 r_2).bind fun r_5=>
 bif (!r_5)then
 bI (((0:Int)≤i∧i<(r_1.length:Int))∧((out2.length+[(⟨r_2,(at' r_1 i.toNat)⟩:aI)].length)*24≤140737488355328)∧(out2.length+[(⟨r_2,(at' r_1 i.toNat)⟩:aI)].length≤4611686018427387904)) (
 some (.next ((out2++[(⟨r_2,(at' r_1 i.toNat)⟩:aI)]),(IntKind.wrap .i64 (i+1)))))
 else
 some (.next (out2,(IntKind.wrap .i64 (i+1)))))
 else
 some (.done (.brk out2))
def fe (p:ai) (s_:State) (l:(List Transfer)) (r_1:(List Part)):((List aI) × Int)→Option (aS ((List aI) × Int) (Ex (List aI) ((List aI) × Int))):=
 fun zz=>match zz with
 |(out,r_2)=>
 bif (decide (r_2<(p.racks.length:Int)))then
 bI ((0:Int)≤r_2∧r_2<(p.racks.length:Int)) (
 (bif gB [((decide (1≤((at' p.racks r_2.toNat).paths))),true)]then oq p s_ r_2 else some default).bind fun r_3=>
 bif (bif (decide (1≤((at' p.racks r_2.toNat).paths)))then(!r_3)else false)then
 bI (((out.length+[(⟨r_2,(⟨0,0⟩:Part)⟩:aI)].length)*24≤140737488355328)∧(out.length+[(⟨r_2,(⟨0,0⟩:Part)⟩:aI)].length≤4611686018427387904)) (
 some (.next ((out++[(⟨r_2,(⟨0,0⟩:Part)⟩:aI)]),(IntKind.wrap .i64 (r_2+1)))))
 else
 Option.bind (aA (dX p s_ l r_1 r_2) FUEL (out,0)) fun o=>match o with
 | .ret v=>some v
 | .brk out3=>
 some (.next (out3,(IntKind.wrap .i64 (r_2+1)))))
 else
 some (.done (.brk out))
def iJ (p:ai) (s_:State) (l:(List Transfer)):Option ((List aI) × Int):=
 (cO p s_ l).bind fun r_=>
 bif (!decide (r_=0))then
 some (([]:List aI),r_)
 else
 (nP p s_).bind fun r_1=>
 Option.bind (aA (fe p s_ l r_1) FUEL (([]:List aI),0)) fun o=>match o with
 | .ret v=>some v
 | .brk out1=>
 some (out1,0)
def jH (l:(List Part)) (t10:Int):((List (List Part)) × Int)→Option (aS ((List (List Part)) × Int) (Ex (List (List Part)) (aS ((List (List Part)) × Int) (Ex (List (List Part)) (List (List Part)))))):=
 fun zz=>match zz with
 |(out2,t20)=>
 bif (decide (t20<(((l.length - ((IntKind.wrap .i64 (t10+1)).toNat)):Nat):Int)))then
 bI ((0:Int)≤t20∧t20<((l.drop ((IntKind.wrap .i64 (t10+1)).toNat)).length:Int)) (
 bI (((out2.length+[[(at' l t10.toNat),(at' (l.drop ((IntKind.wrap .i64 (t10+1)).toNat)) t20.toNat)]].length)*24≤140737488355328)∧(out2.length+[[(at' l t10.toNat),(at' (l.drop ((IntKind.wrap .i64 (t10+1)).toNat)) t20.toNat)]].length≤4611686018427387904)) (
 some (.next ((out2++[[(at' l t10.toNat),(at' (l.drop ((IntKind.wrap .i64 (t10+1)).toNat)) t20.toNat)]]),(IntKind.wrap .i64 (t20+1))))))
 else
 some (.done (.brk out2))
def jQ (l:(List Part)):((List (List Part)) × Int)→Option (aS ((List (List Part)) × Int) (Ex (List (List Part)) (List (List Part)))):=
 fun zz=>match zz with
 |(out,t10)=>
 bif (decide (t10<(l.length:Int)))then
 bI ((0:Int)≤t10∧t10<(l.length:Int)) (
 bI ((0:Int)≤(IntKind.wrap .i64 (t10+1))∧(IntKind.wrap .i64 (t10+1))≤(l.length:Int)) (
 Option.bind (aA (jH l t10) FUEL (out,0)) fun o=>match o with
 | .ret v=>some v
 | .brk out3=>
 some (.next (out3,(IntKind.wrap .i64 (t10+1))))))
 else
 some (.done (.brk out))
def qw (l:(List Part)):Option (List (List Part)):=
 Option.bind (aA (jQ l) FUEL (([]:List (List Part)),0)) fun o=>match o with
 | .ret v=>some v
 | .brk out1=>
 some out1
def jI (x:(List Part)) (x1:Int) (x11:(List Source)) (x12:(List Link)) (x13:(List aT)) (x2:(List Bool)) (x21:(List Bool)) (x22:(List Bool)) (x23:(List Bool)) (x24:(List Bool)) (x25:(List Bool)) (x26:(List Bool)) (x3:(List Transfer)):Option Bool:=
 (mo (⟨x1,x11,x12,x13⟩:ai) (⟨x2,x21,x22,x23,x24,x25,x26⟩:State) x3 x).bind fun r_=>
 some (decide (0<(r_.1.length:Int)))
def kF (p:ai) (s_:State) (l:(List Transfer)) (r_1:(List Part)):((List (List Part)) × (List Part) × Int)→Option (aS ((List (List Part)) × (List Part) × Int) (Ex ((List (List Part)) × (List Part)) ((List (List Part)) × Int))):=
 fun zz=>match zz with
 |(out,others,t30)=>
 bif (decide (t30<(r_1.length:Int)))then
 bI ((0:Int)≤t30∧t30<(r_1.length:Int)) (
 (jI [(at' r_1 t30.toNat)] p.buses p.sources p.links p.racks s_.closed s_.locked s_.badLink s_.on_ s_.badSource s_.earthed s_.badBus l).bind fun r_2=>
 bif r_2 then
 bI (((out.length+[[(at' r_1 t30.toNat)]].length)*24≤140737488355328)∧(out.length+[[(at' r_1 t30.toNat)]].length≤4611686018427387904)) (
 some (.next ((out++[[(at' r_1 t30.toNat)]]),others,(IntKind.wrap .i64 (t30+1)))))
 else
 bI (((others.length+[(at' r_1 t30.toNat)].length)*16≤140737488355328)∧(others.length+[(at' r_1 t30.toNat)].length≤4611686018427387904)) (
 some (.next (out,(others++[(at' r_1 t30.toNat)]),(IntKind.wrap .i64 (t30+1))))))
 else
 some (.done (.brk (out,others)))
def nU (p:ai) (s_:State) (l:(List Transfer)) (r_3:(List (List Part))):((List (List Part)) × Int)→Option (aS ((List (List Part)) × Int) (Ex (List (List Part)) ((List (List Part)) × Int))):=
 fun zz=>match zz with
 |(out2,t52)=>
 bif (decide (t52<(r_3.length:Int)))then
 bI ((0:Int)≤t52∧t52<(r_3.length:Int)) (
 (jI (at' r_3 t52.toNat) p.buses p.sources p.links p.racks s_.closed s_.locked s_.badLink s_.on_ s_.badSource s_.earthed s_.badBus l).bind fun r_4=>
 bif r_4 then
 bI (((out2.length+[(at' r_3 t52.toNat)].length)*24≤140737488355328)∧(out2.length+[(at' r_3 t52.toNat)].length≤4611686018427387904)) (
 some (.next ((out2++[(at' r_3 t52.toNat)]),(IntKind.wrap .i64 (t52+1)))))
 else
 some (.next (out2,(IntKind.wrap .i64 (t52+1)))))
 else
 some (.done (.brk out2))
def mH (p:ai) (s_:State) (l:(List Transfer)) (both:Bool):Option ((List (List Part)) × Int):=
 (cZ p s_ l).bind fun r_=>
 bif (!decide (r_=0))then
 some (([]:List (List Part)),r_)
 else
 (gM p s_).bind fun r_1=>
 Option.bind (aA (kF p s_ l r_1) FUEL (([]:List (List Part)),([]:List Part),0)) fun o=>match o with
 | .ret v=>some v
 | .brk (out1,others1)=>
 bif both then
 (qw others1).bind fun r_3=>
 Option.bind (aA (nU p s_ l r_3) FUEL (out1,0)) fun o=>match o with
 | .ret v=>some v
 | .brk out3=>
 some (out3,0)
 else
 some (out1,0)
def kH (p:ai) (s_:State) (l:(List Transfer)) (r_1:(List Part)):((List (List Part)) × (List Bool) × Int)→Option (aS ((List (List Part)) × (List Bool) × Int) (Ex ((List (List Part)) × (List Bool)) ((List (List Part)) × Int))):=
 fun zz=>match zz with
 |(out,weak,i)=>
 bif (decide (i<(r_1.length:Int)))then
 (pK p s_ l (Gx r_1 i.toNat (((IntKind.wrap .i64 (i+1)).toNat) - i.toNat))).bind fun r_2=>
 bI ((0:Int)≤i∧i≤(IntKind.wrap .i64 (i+1))∧(IntKind.wrap .i64 (i+1))≤(r_1.length:Int)) (
 bI ((0:Int)≤i∧i<(weak.length:Int)) (
 bI (((0:Int)≤i∧i<((weak.set i.toNat (decide (0<(r_2.1.length:Int)))).length:Int))∧(i.toNat<(weak.set i.toNat (decide (0<(r_2.1.length:Int)))).length)) (
 bif (at' (weak.set i.toNat (decide (0<(r_2.1.length:Int)))) i.toNat)then
 bI (((0:Int)≤i∧i<(r_1.length:Int))∧((out.length+[[(at' r_1 i.toNat)]].length)*24≤140737488355328)∧(out.length+[[(at' r_1 i.toNat)]].length≤4611686018427387904)) (
 some (.next ((out++[[(at' r_1 i.toNat)]]),(weak.set i.toNat (decide (0<(r_2.1.length:Int)))),(IntKind.wrap .i64 (i+1)))))
 else
 some (.next (out,(weak.set i.toNat (decide (0<(r_2.1.length:Int)))),(IntKind.wrap .i64 (i+1)))))))
 else
 some (.done (.brk (out,weak)))
def kC (p:ai) (s_:State) (l:(List Transfer)) (r_1:(List Part)) (weak1:(List Bool)) (i1:Int):((List (List Part)) × Int)→Option (aS ((List (List Part)) × Int) (Ex (List (List Part)) (aS ((List (List Part)) × Int) (Ex (List (List Part)) ((List (List Part)) × Int))))):=
 fun zz=>match zz with
 |(out4,kz)=>
 bif (decide (kz<(r_1.length:Int)))then
 bI (((0:Int)≤i1∧i1<(weak1.length:Int))∧(gB [((at' weak1 i1.toNat),false)]=true→(0:Int)≤kz∧kz<(weak1.length:Int))) (
 bif (bif (at' weak1 i1.toNat)then true else(at' weak1 kz.toNat))then
 some (.next (out4,(IntKind.wrap .i64 (kz+1))))
 else
 bI (((0:Int)≤i1∧i1<(r_1.length:Int))∧((0:Int)≤kz∧kz<(r_1.length:Int))) (
 (pK p s_ l [(at' r_1 i1.toNat),(at' r_1 kz.toNat)]).bind fun r_3=>
 bif (decide (0<(r_3.1.length:Int)))then
 bI (((out4.length+[[(at' r_1 i1.toNat),(at' r_1 kz.toNat)]].length)*24≤140737488355328)∧(out4.length+[[(at' r_1 i1.toNat),(at' r_1 kz.toNat)]].length≤4611686018427387904)) (
 some (.next ((out4++[[(at' r_1 i1.toNat),(at' r_1 kz.toNat)]]),(IntKind.wrap .i64 (kz+1)))))
 else
 some (.next (out4,(IntKind.wrap .i64 (kz+1))))))
 else
 some (.done (.brk out4))
def fM (p:ai) (s_:State) (l:(List Transfer)) (pairs:Bool) (r_1:(List Part)) (weak1:(List Bool)):((List (List Part)) × Int)→Option (aS ((List (List Part)) × Int) (Ex (List (List Part)) ((List (List Part)) × Int))):=
 fun zz=>match zz with
 |(out2,i1)=>
 bif (bif (decide (i1<(r_1.length:Int)))then pairs else false)then
 Option.bind (aA (kC p s_ l r_1 weak1 i1) FUEL (out2,(IntKind.wrap .i64 (i1+1)))) fun o=>match o with
 | .ret v=>some v
 | .brk out5=>
 some (.next (out5,(IntKind.wrap .i64 (i1+1))))
 else
 some (.done (.brk out2))
def mQ (p:ai) (s_:State) (l:(List Transfer)) (pairs:Bool):Option ((List (List Part)) × Int):=
 (cO p s_ l).bind fun r_=>
 bif (!decide (r_=0))then
 some (([]:List (List Part)),r_)
 else
 (nP p s_).bind fun r_1=>
 bI (((0:Int)≤(r_1.length:Int))∧((1:Int)*(r_1.length:Int)≤281474976710656)∧(((r_1.length:Int):Int)≤9223372036854775807)) (
 Option.bind (aA (kH p s_ l r_1) FUEL (([]:List (List Part)),(List.replicate ((r_1.length:Int).toNat) (false:Bool)),0)) fun o=>match o with
 | .ret v=>some v
 | .brk (out1,weak1)=>
 Option.bind (aA (fM p s_ l pairs r_1 weak1) FUEL (out1,0)) fun o=>match o with
 | .ret v=>some v
 | .brk out3=>
 some (out3,0))
def vK (a:(List Part)) (b:(List Part)):Option Bool:=
 (kE a b).bind fun r_=>
 some r_
def lu (a:(List (List Part))) (b:(List (List Part))):Int→Option (aS Int (Ex Unit Bool)):=
 fun i=>
 bif (decide (i<(a.length:Int)))then
 (vK (at' a i.toNat) (at' b i.toNat)).bind fun r_=>
 bI (((0:Int)≤i∧i<(a.length:Int))∧((0:Int)≤i∧i<(b.length:Int))) (
 bif (!r_)then
 some (.done (.ret false))
 else
 some (.next (IntKind.wrap .i64 (i+1))))
 else
 some (.done (.brk ()))
def o6 (a:(List (List Part))) (b:(List (List Part))):Option Bool:=
 bif (!decide ((a.length:Int)=(b.length:Int)))then
 some false
 else
 Option.bind (aA (lu a b) FUEL (0)) fun o=>match o with
 | .ret v=>some v
 | .brk _=>
 some true
def eY (r_3:((List aI) × Int)) (r_4:((List aI) × Int)):Int→Option (aS Int (Ex Unit Bool)):=
 fun i=>
 bif (decide (i<(r_3.1.length:Int)))then
 bI (((0:Int)≤i∧i<(r_3.1.length:Int))∧((0:Int)≤i∧i<(r_4.1.length:Int))) (
 bif (!((decide (((at' r_3.1 i.toNat).rack)=((at' r_4.1 i.toNat).rack))) && ((decide ((((at' r_3.1 i.toNat).part).kind)=(((at' r_4.1 i.toNat).part).kind))) && ((decide ((((at' r_3.1 i.toNat).part).index)=(((at' r_4.1 i.toNat).part).index))) && true))))then
 some (.done (.ret false))
 else
 some (.next (IntKind.wrap .i64 (i+1))))
 else
 some (.done (.brk ()))
def jY (p:ai) (s_:State) (l:(List Transfer)) (pairs:Bool):Option Bool:=
 (uQ p).bind fun r_=>
 bif (bif (bif r_ then true else(bif (decide (6<(l.length:Int)))then(decide ((l.length:Int)≤16))else false))then true else(decide (20<(l.length:Int))))then
 (qo).bind fun r_1=>
 some r_1
 else
 (qI l).bind fun r_2=>
 (iK p s_ r_2).bind fun r_3=>
 (iJ p s_ l).bind fun r_4=>
 bif (bif (!decide (r_3.2=r_4.2))then true else(!decide ((r_3.1.length:Int)=(r_4.1.length:Int))))then
 some false
 else
 Option.bind (aA (eY r_3 r_4) FUEL (0)) fun o=>match o with
 | .ret v=>some v
 | .brk _=>
 (qI l).bind fun r_5=>
 (mH p s_ r_5 pairs).bind fun r_6=>
 (mQ p s_ l pairs).bind fun r_7=>
 (bif gB [((decide (r_6.2=r_7.2)),true)]then o6 r_6.1 r_7.1 else some default).bind fun r_8=>
 (bif gB [((bif (decide (r_6.2=r_7.2))then r_8 else false),true)]then qo else some default).bind fun r_9=>
 some (bif (bif (decide (r_6.2=r_7.2))then r_8 else false)then r_9 else false)
end Sg
