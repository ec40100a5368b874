import Derived.Test.YtklofnlffikpgaaGreatBrLd
set_option linter.all false
namespace Sg
open Go
structure Source where
 bus:Int
 kind:Int
 power:Int
 sync:Int
 ohm:Int
instance:Inhabited Source:=⟨⟨default,default,default,default,default⟩⟩
def Source.cell (x:Source):Nat→DV
 |0=>(.int .i64 x.bus)
 |1=>(.int .i64 x.kind)
 |2=>(.int .i64 x.power)
 |3=>(.int .i64 x.sync)
 |4=>(.int .i64 x.ohm)
 |_=> .nilp
structure vN where
 amps:Int
 millis:Int
instance:Inhabited vN:=⟨⟨default,default⟩⟩
def vN.cell (x:vN):Nat→DV
 |0=>(.int .i64 x.amps)
 |1=>(.int .i64 x.millis)
 |_=> .nilp
structure Link where
 a:Int
 b:Int
 kind:Int
 most:Int
 ohm:Int
 trip:(List vN)
instance:Inhabited Link:=⟨⟨default,default,default,default,default,default⟩⟩
def Link.cell (x:Link):Nat→DV
 |0=>(.int .i64 x.a)
 |1=>(.int .i64 x.b)
 |2=>(.int .i64 x.kind)
 |3=>(.int .i64 x.most)
 |4=>(.int .i64 x.ohm)
 |5=>(bD none 2 vN.cell x.trip)
 |_=> .nilp
structure aj where
 e0:Int
 e1:Int
instance:Inhabited aj:=⟨⟨default,default⟩⟩
def aj.cell (x:aj):Nat→DV
 |0=>(.int .i64 x.e0)
 |1=>(.int .i64 x.e1)
 |_=> .nilp
structure aS where
 feeds:aj
 power:Int
 paths:Int
instance:Inhabited aS:=⟨⟨default,default,default⟩⟩
def aS.cell (x:aS):Nat→DV
 |0=>(.int .i64 x.feeds.e0)
 |1=>(.int .i64 x.feeds.e1)
 |2=>(.int .i64 x.power)
 |3=>(.int .i64 x.paths)
 |_=> .nilp
structure ah where
 buses:Int
 sources:(List Source)
 links:(List Link)
 racks:(List aS)
instance:Inhabited ah:=⟨⟨default,default,default,default⟩⟩
def ah.cell (x:ah):Nat→DV
 |0=>(.int .i64 x.buses)
 |1=>(bD none 5 Source.cell x.sources)
 |2=>(bD none 6 Link.cell x.links)
 |3=>(bD none 4 aS.cell x.racks)
 |_=> .nilp
structure State where
 closed:(List Bool)
 locked:(List Bool)
 badLink:(List Bool)
 on_:(List Bool)
 badSource:(List Bool)
 earthed:(List Bool)
 badBus:(List Bool)
instance:Inhabited State:=⟨⟨default,default,default,default,default,default,default⟩⟩
def State.cell (x:State):Nat→DV
 |0=>(bD none 1 af x.closed)
 |1=>(bD none 1 af x.locked)
 |2=>(bD none 1 af x.badLink)
 |3=>(bD none 1 af x.on_)
 |4=>(bD none 1 af x.badSource)
 |5=>(bD none 1 af x.earthed)
 |6=>(bD none 1 af x.badBus)
 |_=> .nilp
structure bZ where
 l:(List Bool)
 n:Int
instance:Inhabited bZ:=⟨⟨default,default⟩⟩
def bZ.cell (x:bZ):Nat→DV
 |0=>(bD none 1 af x.l)
 |1=>(.int .i64 x.n)
 |_=> .nilp
structure Transfer where
 watch:Int
 open_:Int
 close:Int
instance:Inhabited Transfer:=⟨⟨default,default,default⟩⟩
def Transfer.cell (x:Transfer):Nat→DV
 |0=>(.int .i64 x.watch)
 |1=>(.int .i64 x.open_)
 |2=>(.int .i64 x.close)
 |_=> .nilp
structure bg where
 head:(List (Int × Int))
instance:Inhabited bg:=⟨⟨default⟩⟩
def bg.cell (x:bg):Nat→DV
 |0=> .nilp
 |_=> .nilp
structure aI where
 buses:(List Int)
 sources:(List Int)
instance:Inhabited aI:=⟨⟨default,default⟩⟩
def aI.cell (x:aI):Nat→DV
 |0=>(bD none 1 (aH .i64) x.buses)
 |1=>(bD none 1 (aH .i64) x.sources)
 |_=> .nilp
structure Part where
 kind:Int
 index:Int
instance:Inhabited Part:=⟨⟨default,default⟩⟩
def Part.cell (x:Part):Nat→DV
 |0=>(.int .i64 x.kind)
 |1=>(.int .i64 x.index)
 |_=> .nilp
structure aC where
 e0:(List (Int × (List Int)))
 e1:(List (Int × (List Int)))
instance:Inhabited aC:=⟨⟨default,default⟩⟩
def aC.cell (x:aC):Nat→DV
 |0=> .nilp
 |1=> .nilp
 |_=> .nilp
structure Graph where
 parts:(List Part)
 aF:aC
instance:Inhabited Graph:=⟨⟨default,default⟩⟩
def Graph.cell (x:Graph):Nat→DV
 |0=>(bD none 2 Part.cell x.parts)
 |1=> .nilp
 |2=> .nilp
 |_=> .nilp
structure bA where
 e0:Bool
 e1:Bool
instance:Inhabited bA:=⟨⟨default,default⟩⟩
def bA.cell (x:bA):Nat→DV
 |0=>(.bool x.e0)
 |1=>(.bool x.e1)
 |_=> .nilp
structure aO where
 rack:Int
 part:Part
instance:Inhabited aO:=⟨⟨default,default⟩⟩
def aO.cell (x:aO):Nat→DV
 |0=>(.int .i64 x.rack)
 |1=>(.int .i64 x.part.kind)
 |2=>(.int .i64 x.part.index)
 |_=> .nilp
def aI.ev (x:aI):Nat→EV
 |0=> .row 3 1 x.buses.length (av (aH .i64) x.buses)
 |1=> .row 3 1 x.sources.length (av (aH .i64) x.sources)
 |_=> .d .nilp
def aQ (n:Int) (first:Int) (last:Int):Option Bool:=
 some (bif (decide (first≤n))then(decide (n≤last))else false)
def uo (p:ah):Option (Int × (List Source) × (List Link) × (List aS)):=
 some (p.buses,p.sources,p.links,p.racks)
def wN (p:ah):Option (Int × (List Source) × (List Link) × (List aS)):=
 some (p.buses,p.sources,p.links,p.racks)
def xD (p:ah):Option (Int × (List Source) × (List Link) × (List aS)):=
 some (p.buses,p.sources,p.links,p.racks)
def nA (x:Source) (x1:Int) (x11:(List Source)) (x12:(List Link)) (x13:(List aS)):Option Bool:=
 (aQ x.bus 0 (IntKind.wrap .i64 (x1 - 1))).bind fun r_=>
 (bif gB [(r_,true)]then aQ x.kind 1 3 else some default).bind fun r_1=>
 (bif gB [((bif r_ then r_1 else false),true)]then aQ x.power 1 100000 else some default).bind fun r_2=>
 (bif gB [((bif (bif r_ then r_1 else false)then r_2 else false),true)]then aQ x.sync 0 8 else some default).bind fun r_3=>
 (bif gB [((bif (bif (bif r_ then r_1 else false)then r_2 else false)then r_3 else false),true)]then aQ x.ohm 10 100000 else some default).bind fun r_4=>
 some (bif (bif (bif (bif r_ then r_1 else false)then r_2 else false)then r_3 else false)then r_4 else false)
def uz (x:Source) (x1:Int) (x11:(List Source)) (x12:(List Link)) (x13:(List aS)):Option Bool:=
 (nA x x1 x11 x12 x13).bind fun r_=>
 some (!r_)
def lV (s_:(List Source)) (f_:Int) (f_1:(List Source)) (f_2:(List Link)) (f_3:(List aS)):Int→Option (aP Int (Ex Unit Int)):=
 fun t8=>
 bif (decide (t8<(s_.length:Int)))then
 (uz (at' s_ t8.toNat) f_ f_1 f_2 f_3).bind fun r_=>
 bJ ((0:Int)≤t8∧t8<(s_.length:Int)) (
 bif r_ then
 some (.done (.ret t8))
 else
 some (.next (IntKind.wrap .i64 (t8+1))))
 else
 some (.done (.brk ()))
def oI (s_:(List Source)) (f_:Int) (f_1:(List Source)) (f_2:(List Link)) (f_3:(List aS)):Option Int:=
 Option.bind (ay (lV s_ f_ f_1 f_2 f_3) FUEL (0)) fun o=>match o with
 | .ret v=>some v
 | .brk _=>
 some (-1)
def ji (s_:(List Source)) (f_:Int) (f_1:(List Source)) (f_2:(List Link)) (f_3:(List aS)):Option Bool:=
 (oI s_ f_ f_1 f_2 f_3).bind fun r_=>
 some (decide (0≤r_))
def rQ (l:(List Source)) (most:Int) (right:Int) (right1:(List Source)) (right2:(List Link)) (right3:(List aS)):Option Bool:=
 (bif gB [((decide ((l.length:Int)≤most)),true)]then ji l right right1 right2 right3 else some default).bind fun r_=>
 some (bif (decide ((l.length:Int)≤most))then(!r_)else false)
def mh (x:Link):Int→Option (aP Int (Ex Unit Bool)):=
 fun t50=>
 bif (decide (t50<(x.trip.length:Int)))then
 bJ ((0:Int)≤t50∧t50<(x.trip.length:Int)) (
 (aQ ((at' x.trip t50.toNat).amps) 1 1000000).bind fun r_5=>
 (bif gB [((!r_5),false)]then aQ ((at' x.trip t50.toNat).millis) 1 100000 else some default).bind fun r_6=>
 bJ ((gB [((decide (0<t50)),true),((bif (!r_5)then true else(!r_6)),false)]=true→(0:Int)≤(IntKind.wrap .i64 (t50 - 1))∧(IntKind.wrap .i64 (t50 - 1))<(x.trip.length:Int))∧(gB [((decide (((at' x.trip t50.toNat).amps)≤((at' x.trip ((IntKind.wrap .i64 (t50 - 1)).toNat)).amps))),false),((decide (0<t50)),true),((bif (!r_5)then true else(!r_6)),false)]=true→(0:Int)≤(IntKind.wrap .i64 (t50 - 1))∧(IntKind.wrap .i64 (t50 - 1))<(x.trip.length:Int))) (
 bif (bif (bif (!r_5)then true else(!r_6))then true else(bif (decide (0<t50))then(bif (decide (((at' x.trip t50.toNat).amps)≤((at' x.trip ((IntKind.wrap .i64 (t50 - 1)).toNat)).amps)))then true else(decide (((at' x.trip ((IntKind.wrap .i64 (t50 - 1)).toNat)).millis)≤((at' x.trip t50.toNat).millis))))else false))then
 some (.done (.ret false))
 else
 some (.next (IntKind.wrap .i64 (t50+1)))))
 else
 some (.done (.brk ()))
def o9 (x:Link) (x1:Int) (x11:(List Source)) (x12:(List Link)) (x13:(List aS)):Option Bool:=
 (aQ x.a 0 (IntKind.wrap .i64 (x1 - 1))).bind fun r_=>
 (bif gB [((!r_),false)]then aQ x.b 0 (IntKind.wrap .i64 (x1 - 1))else some default).bind fun r_1=>
 (bif gB [((bif (bif (!r_)then true else(!r_1))then true else(decide (x.a=x.b))),false)]then aQ x.kind 1 3 else some default).bind fun r_2=>
 (bif gB [((bif (bif (bif (!r_)then true else(!r_1))then true else(decide (x.a=x.b)))then true else(!r_2)),false)]then aQ x.most 1 100000 else some default).bind fun r_3=>
 (bif gB [((bif (bif (bif (bif (!r_)then true else(!r_1))then true else(decide (x.a=x.b)))then true else(!r_2))then true else(!r_3)),false)]then aQ x.ohm 10 100000 else some default).bind fun r_4=>
 bif (bif (bif (bif (bif (bif (!r_)then true else(!r_1))then true else(decide (x.a=x.b)))then true else(!r_2))then true else(!r_3))then true else(!r_4))then
 some false
 else
 Option.bind (ay (mh x) FUEL (0)) fun o=>match o with
 | .ret v=>some v
 | .brk _=>
 some (bif (decide ((x.trip.length:Int)≤6))then(bif (decide ((x.trip.length:Int)=0))then true else(decide (x.kind=3)))else false)
def o5 (x:Link) (x1:Int) (x11:(List Source)) (x12:(List Link)) (x13:(List aS)):Option Bool:=
 (o9 x x1 x11 x12 x13).bind fun r_=>
 some (!r_)
def jU (s_:(List Link)) (f_:Int) (f_1:(List Source)) (f_2:(List Link)) (f_3:(List aS)):Int→Option (aP Int (Ex Unit Int)):=
 fun t8=>
 bif (decide (t8<(s_.length:Int)))then
 (o5 (at' s_ t8.toNat) f_ f_1 f_2 f_3).bind fun r_=>
 bJ ((0:Int)≤t8∧t8<(s_.length:Int)) (
 bif r_ then
 some (.done (.ret t8))
 else
 some (.next (IntKind.wrap .i64 (t8+1))))
 else
 some (.done (.brk ()))
def lY (s_:(List Link)) (f_:Int) (f_1:(List Source)) (f_2:(List Link)) (f_3:(List aS)):Option Int:=
 Option.bind (ay (jU s_ f_ f_1 f_2 f_3) FUEL (0)) fun o=>match o with
 | .ret v=>some v
 | .brk _=>
 some (-1)
def gI (s_:(List Link)) (f_:Int) (f_1:(List Source)) (f_2:(List Link)) (f_3:(List aS)):Option Bool:=
 (lY s_ f_ f_1 f_2 f_3).bind fun r_=>
 some (decide (0≤r_))
def pF (l:(List Link)) (most:Int) (right:Int) (right1:(List Source)) (right2:(List Link)) (right3:(List aS)):Option Bool:=
 (bif gB [((decide ((l.length:Int)≤most)),true)]then gI l right right1 right2 right3 else some default).bind fun r_=>
 some (bif (decide ((l.length:Int)≤most))then(!r_)else false)
def qL (x:aS):Option Int:=
 bif (decide (x.feeds.e1=(-1)))then
 some 1
 else
 some 2
def qf (x:aS) (x1:Int) (x11:(List Source)) (x12:(List Link)) (x13:(List aS)):Option Bool:=
 (aQ x.feeds.e0 0 (IntKind.wrap .i64 (x1 - 1))).bind fun r_=>
 (bif gB [(r_,true)]then aQ x.feeds.e1 (-1) (IntKind.wrap .i64 (x1 - 1))else some default).bind fun r_1=>
 (bif gB [((bif (bif r_ then r_1 else false)then(!decide (x.feeds.e0=x.feeds.e1))else false),true)]then aQ x.power 1 100000 else some default).bind fun r_2=>
 (bif gB [((bif (bif (bif r_ then r_1 else false)then(!decide (x.feeds.e0=x.feeds.e1))else false)then r_2 else false),true)]then qL x else some default).bind fun r_3=>
 (bif gB [((bif (bif (bif r_ then r_1 else false)then(!decide (x.feeds.e0=x.feeds.e1))else false)then r_2 else false),true)]then aQ x.paths 0 r_3 else some default).bind fun r_4=>
 some (bif (bif (bif (bif r_ then r_1 else false)then(!decide (x.feeds.e0=x.feeds.e1))else false)then r_2 else false)then r_4 else false)
def pz (x:aS) (x1:Int) (x11:(List Source)) (x12:(List Link)) (x13:(List aS)):Option Bool:=
 (qf x x1 x11 x12 x13).bind fun r_=>
 some (!r_)
def jM (s_:(List aS)) (f_:Int) (f_1:(List Source)) (f_2:(List Link)) (f_3:(List aS)):Int→Option (aP Int (Ex Unit Int)):=
 fun t8=>
 bif (decide (t8<(s_.length:Int)))then
 (pz (⟨((at' s_ t8.toNat).feeds),(at' s_ t8.toNat).power,(at' s_ t8.toNat).paths⟩:aS) f_ f_1 f_2 f_3).bind fun r_=>
 bJ ((0:Int)≤t8∧t8<(s_.length:Int)) (
 bif r_ then
 some (.done (.ret t8))
 else
 some (.next (IntKind.wrap .i64 (t8+1))))
 else
 some (.done (.brk ()))
def lW (s_:(List aS)) (f_:Int) (f_1:(List Source)) (f_2:(List Link)) (f_3:(List aS)):Option Int:=
 Option.bind (ay (jM s_ f_ f_1 f_2 f_3) FUEL (0)) fun o=>match o with
 | .ret v=>some v
 | .brk _=>
 some (-1)
def gH (s_:(List aS)) (f_:Int) (f_1:(List Source)) (f_2:(List Link)) (f_3:(List aS)):Option Bool:=
 (lW s_ f_ f_1 f_2 f_3).bind fun r_=>
 some (decide (0≤r_))
def pR (l:(List aS)) (most:Int) (right:Int) (right1:(List Source)) (right2:(List Link)) (right3:(List aS)):Option Bool:=
 (bif gB [((decide ((l.length:Int)≤most)),true)]then gH l right right1 right2 right3 else some default).bind fun r_=>
 some (bif (decide ((l.length:Int)≤most))then(!r_)else false)
def ou (p:ah):Option Int:=
 (aQ p.buses 1 24).bind fun r_=>
 bif (!r_)then
 some 10
 else
 (uo p).bind fun r_1=>
 (rQ p.sources 8 r_1.1 r_1.2.1 r_1.2.2.1 r_1.2.2.2).bind fun r_2=>
 bif (!r_2)then
 some 11
 else
 (wN p).bind fun r_3=>
 (pF p.links 40 r_3.1 r_3.2.1 r_3.2.2.1 r_3.2.2.2).bind fun r_4=>
 bif (!r_4)then
 some 12
 else
 (xD p).bind fun r_5=>
 (pR p.racks 24 r_5.1 r_5.2.1 r_5.2.2.1 r_5.2.2.2).bind fun r_6=>
 bif (!r_6)then
 some 13
 else
 some 0
def jh (p:ah) (s_:State):Int→Option (aP Int (Ex Unit Int)):=
 fun t55=>
 bif (decide (t55<([(⟨s_.closed,(p.links.length:Int)⟩:bZ),(⟨s_.locked,(p.links.length:Int)⟩:bZ),(⟨s_.badLink,(p.links.length:Int)⟩:bZ),(⟨s_.on_,(p.sources.length:Int)⟩:bZ),(⟨s_.badSource,(p.sources.length:Int)⟩:bZ),(⟨s_.earthed,p.buses⟩:bZ),(⟨s_.badBus,p.buses⟩:bZ)].length:Int)))then
 bJ ((0:Int)≤t55∧t55<([(⟨s_.closed,(p.links.length:Int)⟩:bZ),(⟨s_.locked,(p.links.length:Int)⟩:bZ),(⟨s_.badLink,(p.links.length:Int)⟩:bZ),(⟨s_.on_,(p.sources.length:Int)⟩:bZ),(⟨s_.badSource,(p.sources.length:Int)⟩:bZ),(⟨s_.earthed,p.buses⟩:bZ),(⟨s_.badBus,p.buses⟩:bZ)].length:Int)) (
 bif (!decide ((((at' [(⟨s_.closed,(p.links.length:Int)⟩:bZ),(⟨s_.locked,(p.links.length:Int)⟩:bZ),(⟨s_.badLink,(p.links.length:Int)⟩:bZ),(⟨s_.on_,(p.sources.length:Int)⟩:bZ),(⟨s_.badSource,(p.sources.length:Int)⟩:bZ),(⟨s_.earthed,p.buses⟩:bZ),(⟨s_.badBus,p.buses⟩:bZ)] t55.toNat).l).length:Int)=((at' [(⟨s_.closed,(p.links.length:Int)⟩:bZ),(⟨s_.locked,(p.links.length:Int)⟩:bZ),(⟨s_.badLink,(p.links.length:Int)⟩:bZ),(⟨s_.on_,(p.sources.length:Int)⟩:bZ),(⟨s_.badSource,(p.sources.length:Int)⟩:bZ),(⟨s_.earthed,p.buses⟩:bZ),(⟨s_.badBus,p.buses⟩:bZ)] t55.toNat).n)))then
 some (.done (.ret 9))
 else
 some (.next (IntKind.wrap .i64 (t55+1))))
 else
 some (.done (.brk ()))
def jb (p:ah) (s_:State):Int→Option (aP Int (Ex Unit Int)):=
 fun t69=>
 bif (decide (t69<(p.links.length:Int)))then
 bJ ((0:Int)≤t69∧t69<(p.links.length:Int)) (
 bJ ((gB [((decide (((at' p.links t69.toNat).kind)=1)),true)]=true→(0:Int)≤t69∧t69<(s_.closed.length:Int))∧(gB [((!(at' s_.closed t69.toNat)),false),((decide (((at' p.links t69.toNat).kind)=1)),true)]=true→(0:Int)≤t69∧t69<(s_.locked.length:Int))) (
 bif (bif (decide (((at' p.links t69.toNat).kind)=1))then(bif (!(at' s_.closed t69.toNat))then true else(at' s_.locked t69.toNat))else false)then
 some (.done (.ret 9))
 else
 some (.next (IntKind.wrap .i64 (t69+1)))))
 else
 some (.done (.brk ()))
def cK (p:ah) (s_:State):Option Int:=
 (ou p).bind fun r_=>
 bif (!decide (r_=0))then
 some r_
 else
 Option.bind (ay (jh p s_) FUEL (0)) fun o=>match o with
 | .ret v=>some v
 | .brk _=>
 Option.bind (ay (jb p s_) FUEL (0)) fun o=>match o with
 | .ret v=>some v
 | .brk _=>
 some 0
def eU (i:Int) (x1:Int) (x11:(List Source)) (x12:(List Link)) (x13:(List aS)):Option Bool:=
 bJ (gB [((bif (decide (0≤i))then(decide (i<(x12.length:Int)))else false),true)]=true→(0:Int)≤i∧i<(x12.length:Int)) (
 some (bif (bif (decide (0≤i))then(decide (i<(x12.length:Int)))else false)then(!decide (((at' x12 i.toNat).kind)=1))else false))
def gY (x:Transfer) (x1:Int) (x11:(List Source)) (x12:(List Link)) (x13:(List aS)) (x2:Int) (x21:(List Source)) (x22:(List Link)) (x23:(List aS)):Option Bool:=
 (bif gB [((bif (decide (x.watch<0))then true else(decide (x1≤x.watch))),false)]then eU x.close x2 x21 x22 x23 else some default).bind fun r_=>
 (bif gB [((!decide (x.open_=(-1))),true),((bif (bif (decide (x.watch<0))then true else(decide (x1≤x.watch)))then true else(!r_)),false)]then eU x.open_ x2 x21 x22 x23 else some default).bind fun r_1=>
 some (bif (bif (bif (decide (x.watch<0))then true else(decide (x1≤x.watch)))then true else(!r_))then true else(bif (!decide (x.open_=(-1)))then(bif (!r_1)then true else(decide (x.open_=x.close)))else false))
def jP (s_:(List Transfer)) (f_:Int) (f_1:(List Source)) (f_2:(List Link)) (f_3:(List aS)) (f_4:Int) (f_5:(List Source)) (f_6:(List Link)) (f_7:(List aS)):Int→Option (aP Int (Ex Unit Int)):=
 fun t8=>
 bif (decide (t8<(s_.length:Int)))then
 (gY (at' s_ t8.toNat) f_ f_1 f_2 f_3 f_4 f_5 f_6 f_7).bind fun r_=>
 bJ ((0:Int)≤t8∧t8<(s_.length:Int)) (
 bif r_ then
 some (.done (.ret t8))
 else
 some (.next (IntKind.wrap .i64 (t8+1))))
 else
 some (.done (.brk ()))
def lX (s_:(List Transfer)) (f_:Int) (f_1:(List Source)) (f_2:(List Link)) (f_3:(List aS)) (f_4:Int) (f_5:(List Source)) (f_6:(List Link)) (f_7:(List aS)):Option Int:=
 Option.bind (ay (jP s_ f_ f_1 f_2 f_3 f_4 f_5 f_6 f_7) FUEL (0)) fun o=>match o with
 | .ret v=>some v
 | .brk _=>
 some (-1)
def gX (s_:(List Transfer)) (f_:Int) (f_1:(List Source)) (f_2:(List Link)) (f_3:(List aS)) (f_4:Int) (f_5:(List Source)) (f_6:(List Link)) (f_7:(List aS)):Option Bool:=
 (lX s_ f_ f_1 f_2 f_3 f_4 f_5 f_6 f_7).bind fun r_=>
 some (decide (0≤r_))
def dD (p:ah) (s_:State) (l:(List Transfer)):Option Int:=
 (cK p s_).bind fun r_=>
 bif (!decide (r_=0))then
 some r_
 else
 (bif gB [((decide (16<(l.length:Int))),false)]then gX l p.buses p.sources p.links p.racks p.buses p.sources p.links p.racks else some default).bind fun r_1=>
 bif (bif (decide (16<(l.length:Int)))then true else r_1)then
 some 1
 else
 some 0
def sV (s_:(List Bool)) (s_nn:Bool):Option (List Bool):=
 bif (!s_nn)then
 some ([]:List Bool)
 else
 bJ (((([]:List Bool).length+s_.length)*1≤140737488355328)∧(([]:List Bool).length+s_.length≤4611686018427387904)) (
 some (([]:List Bool)++s_))
def aY (s:(List Bool)):Option (List Bool):=sV s true
def pI (s_:State):Option State:=
 bJ ((0:Int)≤0∧0<(7:Int)) (
 (aY s_.closed).bind fun r_=>
 bJ ((0:Int)≤1∧1<(7:Int)) (
 (aY s_.locked).bind fun r_1=>
 bJ ((0:Int)≤2∧2<(7:Int)) (
 (aY s_.badLink).bind fun r_2=>
 bJ ((0:Int)≤3∧3<(7:Int)) (
 (aY s_.on_).bind fun r_3=>
 bJ ((0:Int)≤4∧4<(7:Int)) (
 (aY s_.badSource).bind fun r_4=>
 bJ ((0:Int)≤5∧5<(7:Int)) (
 (aY s_.earthed).bind fun r_5=>
 bJ ((0:Int)≤6∧6<(7:Int)) (
 (aY s_.badBus).bind fun r_6=>
 some (⟨r_,r_1,r_2,r_3,r_4,r_5,r_6⟩:State))))))))
def pJ (p:ah) (s_:State) (l:(List Transfer)):Option ((List Transfer) × Int × (List Source) × (List Link) × (List aS) × State):=
 some (l,p.buses,p.sources,p.links,p.racks,s_)
def kT (p:ah) (s_:State):Option (Int × (List Source) × (List Link) × (List aS) × (List Bool) × (List Bool) × (List Bool) × (List Bool) × (List Bool) × (List Bool) × (List Bool)):=
 some (p.buses,p.sources,p.links,p.racks,s_.closed,s_.locked,s_.badLink,s_.on_,s_.badSource,s_.earthed,s_.badBus)
def eO (g:bg):Int→Option (aP Int (Ex Unit Int)):=
 fun x1=>
 bif (!((aW bX x1 g.head).isSome))then
 some (.done (.ret x1))
 else
 some (.next ((aW bX x1 g.head).getD 0))
def cu (g:bg) (x:Int):Option Int:=
 Option.bind (ay (eO g) FUEL (x)) fun o=>match o with
 | .ret v=>some v
 | .brk _=>none
def j5 (g:bg) (a:Int) (b:Int):Option (List (Int × Int)):=
 (cu g a).bind fun r_=>
 (cu g b).bind fun r_1=>
 bif (!decide (r_=r_1))then
 some (fH bX r_ r_1 g.head)
 else
 some g.head
def mO (x22:Int) (x221:Int) (x222:Int) (x223:Int) (x224:Int) (x225:(List vN)) (o_:bg):Option bg:=
 (j5 o_ x22 x221).bind fun r_=>
 some (⟨r_⟩:bg)
def dJ (x12:(List Link)) (x2:(List Bool)) (x22:(List Bool)) (x26:(List Bool)):((List (Int × Int)) × Int)→Option (aP ((List (Int × Int)) × Int) (Ex (List (Int × Int)) bg)):=
 fun zz=>match zz with
 |(o50,t9)=>
 bif (decide (t9<(x12.length:Int)))then
 bJ ((0:Int)≤t9∧t9<(x12.length:Int)) (
 bif (bif (bif (bif (at' x2 t9.toNat)then(!(at' x22 t9.toNat))else false)then(!(at' x26 (((at' x12 t9.toNat).a).toNat)))else false)then(!(at' x26 (((at' x12 t9.toNat).b).toNat)))else false)then
 (mO ((at' x12 t9.toNat).a) ((at' x12 t9.toNat).b) ((at' x12 t9.toNat).kind) ((at' x12 t9.toNat).most) ((at' x12 t9.toNat).ohm) ((at' x12 t9.toNat).trip) (⟨o50⟩:bg)).bind fun r_=>
 bJ (((0:Int)≤t9∧t9<(x2.length:Int))∧(gB [((at' x2 t9.toNat),true)]=true→(0:Int)≤t9∧t9<(x22.length:Int))∧(gB [((bif (at' x2 t9.toNat)then(!(at' x22 t9.toNat))else false),true)]=true→(0:Int)≤(at' x12 t9.toNat).a∧(at' x12 t9.toNat).a<(x26.length:Int))∧(gB [((bif (bif (at' x2 t9.toNat)then(!(at' x22 t9.toNat))else false)then(!(at' x26 (((at' x12 t9.toNat).a).toNat)))else false),true)]=true→(0:Int)≤(at' x12 t9.toNat).b∧(at' x12 t9.toNat).b<(x26.length:Int))) (
 some (.next (r_.head,(IntKind.wrap .i64 (t9+1)))))
 else
 bJ (((0:Int)≤t9∧t9<(x2.length:Int))∧(gB [((at' x2 t9.toNat),true)]=true→(0:Int)≤t9∧t9<(x22.length:Int))∧(gB [((bif (at' x2 t9.toNat)then(!(at' x22 t9.toNat))else false),true)]=true→(0:Int)≤(at' x12 t9.toNat).a∧(at' x12 t9.toNat).a<(x26.length:Int))∧(gB [((bif (bif (at' x2 t9.toNat)then(!(at' x22 t9.toNat))else false)then(!(at' x26 (((at' x12 t9.toNat).a).toNat)))else false),true)]=true→(0:Int)≤(at' x12 t9.toNat).b∧(at' x12 t9.toNat).b<(x26.length:Int))) (
 some (.next (o50,(IntKind.wrap .i64 (t9+1))))))
 else
 some (.done (.brk o50))
def mU (x1:Int) (x11:(List Source)) (x12:(List Link)) (x13:(List aS)) (x2:(List Bool)) (x21:(List Bool)) (x22:(List Bool)) (x23:(List Bool)) (x24:(List Bool)) (x25:(List Bool)) (x26:(List Bool)) (o_:bg):Option bg:=
 Option.bind (ay (dJ x12 x2 x22 x26) FUEL (o_.head,0)) fun o=>match o with
 | .ret v=>some v
 | .brk o501=>
 some (⟨o501⟩:bg)
def bQ (p:ah) (s_:State) (r_1:bg):((List aI) × (List (Int × Int)) × Int)→Option (aP ((List aI) × (List (Int × Int)) × Int) (Ex ((List aI) × (List (Int × Int))) (List aI))):=
 fun zz=>match zz with
 |(out,at_,t32)=>
 bif (decide (t32<p.buses))then
 bJ ((0:Int)≤t32∧t32<(s_.badBus.length:Int)) (
 bif (at' s_.badBus t32.toNat)then
 some (.next (out,at_,(IntKind.wrap .i64 (t32+1))))
 else
 (cu r_1 t32).bind fun r_2=>
 bif (!((aW bX r_2 at_).isSome))then
 bJ (((out.length+[(⟨([]:List Int),([]:List Int)⟩:aI)].length)*48≤140737488355328)∧(out.length+[(⟨([]:List Int),([]:List Int)⟩:aI)].length≤4611686018427387904)) (
 bJ (((0:Int)≤((aW bX r_2 (fH bX r_2 (out.length:Int) at_)).getD 0)∧((aW bX r_2 (fH bX r_2 (out.length:Int) at_)).getD 0)<((out++[(⟨([]:List Int),([]:List Int)⟩:aI)]).length:Int))∧((((at' (out++[(⟨([]:List Int),([]:List Int)⟩:aI)]) (((aW bX r_2 (fH bX r_2 (out.length:Int) at_)).getD 0).toNat)).buses).length+[t32].length)*8≤140737488355328)∧(((at' (out++[(⟨([]:List Int),([]:List Int)⟩:aI)]) (((aW bX r_2 (fH bX r_2 (out.length:Int) at_)).getD 0).toNat)).buses).length+[t32].length≤4611686018427387904)) (
 some (.next (((out++[(⟨([]:List Int),([]:List Int)⟩:aI)]).set (((aW bX r_2 (fH bX r_2 (out.length:Int) at_)).getD 0).toNat) (⟨(((at' (out++[(⟨([]:List Int),([]:List Int)⟩:aI)]) (((aW bX r_2 (fH bX r_2 (out.length:Int) at_)).getD 0).toNat)).buses)++[t32]),(at' (out++[(⟨([]:List Int),([]:List Int)⟩:aI)]) (((aW bX r_2 (fH bX r_2 (out.length:Int) at_)).getD 0).toNat)).sources⟩:aI)),(fH bX r_2 (out.length:Int) at_),(IntKind.wrap .i64 (t32+1))))))
 else
 bJ (((0:Int)≤((aW bX r_2 at_).getD 0)∧((aW bX r_2 at_).getD 0)<(out.length:Int))∧((((at' out (((aW bX r_2 at_).getD 0).toNat)).buses).length+[t32].length)*8≤140737488355328)∧(((at' out (((aW bX r_2 at_).getD 0).toNat)).buses).length+[t32].length≤4611686018427387904)) (
 some (.next ((out.set (((aW bX r_2 at_).getD 0).toNat) (⟨(((at' out (((aW bX r_2 at_).getD 0).toNat)).buses)++[t32]),(at' out (((aW bX r_2 at_).getD 0).toNat)).sources⟩:aI)),at_,(IntKind.wrap .i64 (t32+1))))))
 else
 some (.done (.brk (out,at_)))
def bR (p:ah) (s_:State) (r_1:bg) (at_1:(List (Int × Int))):((List aI) × Int)→Option (aP ((List aI) × Int) (Ex (List aI) (List aI))):=
 fun zz=>match zz with
 |(out2,t78)=>
 bif (decide (t78<(p.sources.length:Int)))then
 bJ ((0:Int)≤t78∧t78<(p.sources.length:Int)) (
 bJ (((0:Int)≤t78∧t78<(s_.on_.length:Int))∧(gB [((at' s_.on_ t78.toNat),true)]=true→(0:Int)≤t78∧t78<(s_.badSource.length:Int))∧(gB [((bif (at' s_.on_ t78.toNat)then(!(at' s_.badSource t78.toNat))else false),true)]=true→(0:Int)≤(at' p.sources t78.toNat).bus∧(at' p.sources t78.toNat).bus<(s_.badBus.length:Int))) (
 bif (bif (bif (at' s_.on_ t78.toNat)then(!(at' s_.badSource t78.toNat))else false)then(!(at' s_.badBus (((at' p.sources t78.toNat).bus).toNat)))else false)then
 (cu r_1 ((at' p.sources t78.toNat).bus)).bind fun r_3=>
 bJ (((0:Int)≤((aW bX r_3 at_1).getD 0)∧((aW bX r_3 at_1).getD 0)<(out2.length:Int))∧((((at' out2 (((aW bX r_3 at_1).getD 0).toNat)).sources).length+[t78].length)*8≤140737488355328)∧(((at' out2 (((aW bX r_3 at_1).getD 0).toNat)).sources).length+[t78].length≤4611686018427387904)) (
 some (.next ((out2.set (((aW bX r_3 at_1).getD 0).toNat) (⟨(at' out2 (((aW bX r_3 at_1).getD 0).toNat)).buses,(((at' out2 (((aW bX r_3 at_1).getD 0).toNat)).sources)++[t78])⟩:aI)),(IntKind.wrap .i64 (t78+1)))))
 else
 some (.next (out2,(IntKind.wrap .i64 (t78+1))))))
 else
 some (.done (.brk out2))
def iA (p:ah) (s_:State):Option (List aI):=
 (kT p s_).bind fun r_=>
 (mU r_.1 r_.2.1 r_.2.2.1 r_.2.2.2.1 r_.2.2.2.2.1 r_.2.2.2.2.2.1 r_.2.2.2.2.2.2.1 r_.2.2.2.2.2.2.2.1 r_.2.2.2.2.2.2.2.2.1 r_.2.2.2.2.2.2.2.2.2.1 r_.2.2.2.2.2.2.2.2.2.2 (⟨([]:(List (Int × Int)))⟩:bg)).bind fun r_1=>
 Option.bind (ay (bQ p s_ r_1) FUEL (([]:List aI),([]:(List (Int × Int))),0)) fun o=>match o with
 | .ret v=>some v
 | .brk (out1,at_1)=>
 Option.bind (ay (bR p s_ r_1 at_1) FUEL (out1,0)) fun o=>match o with
 | .ret v=>some v
 | .brk out3=>
 some out3
def lI (r_1:(List aI)) (t25:Int):((List Bool) × Int)→Option (aP ((List Bool) × Int) (Ex (List Bool) (aP ((List Bool) × Int) (Ex (List Bool) ((List Bool) × Int))))):=
 fun zz=>match zz with
 |(out2,t32)=>
 bif (decide (t32<(((at' r_1 t25.toNat).buses).length:Int)))then
 bJ ((0:Int)≤t32∧t32<(((at' r_1 t25.toNat).buses).length:Int)) (
 bJ ((0:Int)≤(at' ((at' r_1 t25.toNat).buses) t32.toNat)∧(at' ((at' r_1 t25.toNat).buses) t32.toNat)<(out2.length:Int)) (
 some (.next ((out2.set ((at' ((at' r_1 t25.toNat).buses) t32.toNat).toNat) (decide (0<(((at' r_1 t25.toNat).sources).length:Int)))),(IntKind.wrap .i64 (t32+1))))))
 else
 some (.done (.brk out2))
def lm (r_1:(List aI)):((List Bool) × Int)→Option (aP ((List Bool) × Int) (Ex (List Bool) ((List Bool) × Int))):=
 fun zz=>match zz with
 |(out,t25)=>
 bif (decide (t25<(r_1.length:Int)))then
 bJ ((0:Int)≤t25∧t25<(r_1.length:Int)) (
 Option.bind (ay (lI r_1 t25) FUEL (out,0)) fun o=>match o with
 | .ret v=>some v
 | .brk out3=>
 some (.next (out3,(IntKind.wrap .i64 (t25+1)))))
 else
 some (.done (.brk out))
def dP (p:ah) (s_:State):Option ((List Bool) × Int):=
 (cK p s_).bind fun r_=>
 bif (!decide (r_=0))then
 some (([]:List Bool),r_)
 else
 bJ (((0:Int)≤p.buses)∧((1:Int)*p.buses≤281474976710656)∧((p.buses:Int)≤9223372036854775807)) (
 (iA p s_).bind fun r_1=>
 Option.bind (ay (lm r_1) FUEL ((List.replicate p.buses.toNat (false:Bool)),0)) fun o=>match o with
 | .ret v=>some v
 | .brk out1=>
 some (out1,0))
def aV (x y:aj):Int:=if x.e0<y.e0 then -1 else if y.e0<x.e0 then 1 else if x.e1<y.e1 then -1 else if y.e1<x.e1 then 1 else 0
def jL (s:(List aj)):Option (List aj):=match s with
 |[]=>some []
 |x::xs=>bif decide ((x::xs).length<4611686018427387904)then some ((x::xs).mergeSort fun x y=> !decide (aV y x<0))else none
def kY (p:ah) (r_1:(List aI)) (t24:Int) (t31:Int):((List aj) × Int)→Option (aP ((List aj) × Int) (Ex (List aj) (aP ((List aj) × Int) (Ex (List aj) (aP ((List aj) × Int) (Ex (List aj) ((List aj) × Int))))))):=
 fun zz=>match zz with
 |(out4,t42)=>
 bif (decide (t42<(((((at' r_1 t24.toNat).sources).length - ((IntKind.wrap .i64 (t31+1)).toNat)):Nat):Int)))then
 bJ ((0:Int)≤t42∧t42<((((at' r_1 t24.toNat).sources).drop ((IntKind.wrap .i64 (t31+1)).toNat)).length:Int)) (
 bJ (((0:Int)≤(at' ((at' r_1 t24.toNat).sources) t31.toNat)∧(at' ((at' r_1 t24.toNat).sources) t31.toNat)<(p.sources.length:Int))∧(gB [((decide (((at' p.sources ((at' ((at' r_1 t24.toNat).sources) t31.toNat).toNat)).sync)=0)),false)]=true→(0:Int)≤(at' ((at' r_1 t24.toNat).sources) t31.toNat)∧(at' ((at' r_1 t24.toNat).sources) t31.toNat)<(p.sources.length:Int))∧(gB [((decide (((at' p.sources ((at' ((at' r_1 t24.toNat).sources) t31.toNat).toNat)).sync)=0)),false)]=true→(0:Int)≤(at' (((at' r_1 t24.toNat).sources).drop ((IntKind.wrap .i64 (t31+1)).toNat)) t42.toNat)∧(at' (((at' r_1 t24.toNat).sources).drop ((IntKind.wrap .i64 (t31+1)).toNat)) t42.toNat)<(p.sources.length:Int))) (
 bif (bif (decide (((at' p.sources ((at' ((at' r_1 t24.toNat).sources) t31.toNat).toNat)).sync)=0))then true else(!decide (((at' p.sources ((at' ((at' r_1 t24.toNat).sources) t31.toNat).toNat)).sync)=((at' p.sources ((at' (((at' r_1 t24.toNat).sources).drop ((IntKind.wrap .i64 (t31+1)).toNat)) t42.toNat).toNat)).sync))))then
 bJ (((out4.length+[(⟨(at' ((at' r_1 t24.toNat).sources) t31.toNat),(at' (((at' r_1 t24.toNat).sources).drop ((IntKind.wrap .i64 (t31+1)).toNat)) t42.toNat)⟩:aj)].length)*16≤140737488355328)∧(out4.length+[(⟨(at' ((at' r_1 t24.toNat).sources) t31.toNat),(at' (((at' r_1 t24.toNat).sources).drop ((IntKind.wrap .i64 (t31+1)).toNat)) t42.toNat)⟩:aj)].length≤4611686018427387904)) (
 some (.next ((out4++[(⟨(at' ((at' r_1 t24.toNat).sources) t31.toNat),(at' (((at' r_1 t24.toNat).sources).drop ((IntKind.wrap .i64 (t31+1)).toNat)) t42.toNat)⟩:aj)]),(IntKind.wrap .i64 (t42+1)))))
 else
 some (.next (out4,(IntKind.wrap .i64 (t42+1))))))
 else
 some (.done (.brk out4))
def kW (p:ah) (r_1:(List aI)) (t24:Int):((List aj) × Int)→Option (aP ((List aj) × Int) (Ex (List aj) (aP ((List aj) × Int) (Ex (List aj) ((List aj) × Int))))):=
 fun zz=>match zz with
 |(out2,t31)=>
 bif (decide (t31<(((at' r_1 t24.toNat).sources).length:Int)))then
 bJ ((0:Int)≤t31∧t31<(((at' r_1 t24.toNat).sources).length:Int)) (
 bJ ((0:Int)≤(IntKind.wrap .i64 (t31+1))∧(IntKind.wrap .i64 (t31+1))≤(((at' r_1 t24.toNat).sources).length:Int)) (
 Option.bind (ay (kY p r_1 t24 t31) FUEL (out2,0)) fun o=>match o with
 | .ret v=>some v
 | .brk out5=>
 some (.next (out5,(IntKind.wrap .i64 (t31+1))))))
 else
 some (.done (.brk out2))
def iX (p:ah) (r_1:(List aI)):((List aj) × Int)→Option (aP ((List aj) × Int) (Ex (List aj) ((List aj) × Int))):=
 fun zz=>match zz with
 |(out,t24)=>
 bif (decide (t24<(r_1.length:Int)))then
 bJ ((0:Int)≤t24∧t24<(r_1.length:Int)) (
 Option.bind (ay (kW p r_1 t24) FUEL (out,0)) fun o=>match o with
 | .ret v=>some v
 | .brk out3=>
 some (.next (out3,(IntKind.wrap .i64 (t24+1)))))
 else
 some (.done (.brk out))
def dM (p:ah) (s_:State):Option ((List aj) × Int):=
 (cK p s_).bind fun r_=>
 bif (!decide (r_=0))then
 some (([]:List aj),r_)
 else
 (iA p s_).bind fun r_1=>
 Option.bind (ay (iX p r_1) FUEL (([]:List aj),0)) fun o=>match o with
 | .ret v=>some v
 | .brk out1=>
 (jL out1).bind fun r_2=>
 bJ (out1.length=r_2.length) (
 some (r_2,0))
def pU (s_:(List aj)) (v_:aj):Int→Option (aP Int (Ex Unit Int)):=
 fun t8=>
 bif (decide (t8<(s_.length:Int)))then
 bJ ((0:Int)≤t8∧t8<(s_.length:Int)) (
 bif ((decide (v_.e0=((at' s_ t8.toNat).e0))) && ((decide (v_.e1=((at' s_ t8.toNat).e1))) && true))then
 some (.done (.ret t8))
 else
 some (.next (IntKind.wrap .i64 (t8+1))))
 else
 some (.done (.brk ()))
def uw (s_:(List aj)) (v_:aj):Option Int:=
 Option.bind (ay (pU s_ v_) FUEL (0)) fun o=>match o with
 | .ret v=>some v
 | .brk _=>
 some (-1)
def mg (s_:(List aj)) (v_:aj):Option Bool:=
 (uw s_ v_).bind fun r_=>
 some (decide (0≤r_))
def rE (c:aj) (x1:(List aj)):Option Bool:=
 (mg x1 c).bind fun r_=>
 some (!r_)
def jQ (s_:(List aj)) (f_:(List aj)):Int→Option (aP Int (Ex Unit Int)):=
 fun t8=>
 bif (decide (t8<(s_.length:Int)))then
 (rE (at' s_ t8.toNat) f_).bind fun r_=>
 bJ ((0:Int)≤t8∧t8<(s_.length:Int)) (
 bif r_ then
 some (.done (.ret t8))
 else
 some (.next (IntKind.wrap .i64 (t8+1))))
 else
 some (.done (.brk ()))
def lT (s_:(List aj)) (f_:(List aj)):Option Int:=
 Option.bind (ay (jQ s_ f_) FUEL (0)) fun o=>match o with
 | .ret v=>some v
 | .brk _=>
 some (-1)
def dw (s_:(List aj)) (f_:(List aj)):Option Bool:=
 (lT s_ f_).bind fun r_=>
 some (decide (0≤r_))
def iQ (s_:State) (r_:((List Bool) × Int)) (r_2:((List Bool) × Int)):Int→Option (aP Int (Ex Unit (State × Bool))):=
 fun t103=>
 bif (decide (t103<(r_2.1.length:Int)))then
 bJ (((0:Int)≤t103∧t103<(r_.1.length:Int))∧(gB [((at' r_.1 t103.toNat),true)]=true→(0:Int)≤t103∧t103<(r_2.1.length:Int))∧(gB [((bif (at' r_.1 t103.toNat)then(!(at' r_2.1 t103.toNat))else false),false)]=true→(0:Int)≤t103∧t103<(r_2.1.length:Int))∧(gB [((at' r_2.1 t103.toNat),true),((bif (at' r_.1 t103.toNat)then(!(at' r_2.1 t103.toNat))else false),false)]=true→(0:Int)≤t103∧t103<(s_.earthed.length:Int))∧(gB [((bif (at' r_2.1 t103.toNat)then(at' s_.earthed t103.toNat)else false),true),((bif (at' r_.1 t103.toNat)then(!(at' r_2.1 t103.toNat))else false),false)]=true→(0:Int)≤t103∧t103<(r_.1.length:Int))) (
 bif (bif (bif (at' r_.1 t103.toNat)then(!(at' r_2.1 t103.toNat))else false)then true else(bif (bif (at' r_2.1 t103.toNat)then(at' s_.earthed t103.toNat)else false)then(!(at' r_.1 t103.toNat))else false))then
 some (.done (.ret (s_,false)))
 else
 some (.next (IntKind.wrap .i64 (t103+1))))
 else
 some (.done (.brk ()))
def vY (s_:State) (r_:((List Bool) × Int)) (r_6:((List Bool) × Int)):Int→Option (aP Int (Ex Unit (State × Bool))):=
 fun t1031=>
 bif (decide (t1031<(r_6.1.length:Int)))then
 bJ (((0:Int)≤t1031∧t1031<(r_.1.length:Int))∧(gB [((at' r_.1 t1031.toNat),true)]=true→(0:Int)≤t1031∧t1031<(r_6.1.length:Int))∧(gB [((bif (at' r_.1 t1031.toNat)then(!(at' r_6.1 t1031.toNat))else false),false)]=true→(0:Int)≤t1031∧t1031<(r_6.1.length:Int))∧(gB [((at' r_6.1 t1031.toNat),true),((bif (at' r_.1 t1031.toNat)then(!(at' r_6.1 t1031.toNat))else false),false)]=true→(0:Int)≤t1031∧t1031<(s_.earthed.length:Int))∧(gB [((bif (at' r_6.1 t1031.toNat)then(at' s_.earthed t1031.toNat)else false),true),((bif (at' r_.1 t1031.toNat)then(!(at' r_6.1 t1031.toNat))else false),false)]=true→(0:Int)≤t1031∧t1031<(r_.1.length:Int))) (
 bif (bif (bif (at' r_.1 t1031.toNat)then(!(at' r_6.1 t1031.toNat))else false)then true else(bif (bif (at' r_6.1 t1031.toNat)then(at' s_.earthed t1031.toNat)else false)then(!(at' r_.1 t1031.toNat))else false))then
 some (.done (.ret (s_,false)))
 else
 some (.next (IntKind.wrap .i64 (t1031+1))))
 else
 some (.done (.brk ()))
def oz (p:ah) (s_:State) (x:Transfer):Option (State × Bool):=
 (dP p s_).bind fun r_=>
 bJ (((0:Int)≤x.watch∧x.watch<(s_.badBus.length:Int))∧(gB [((at' s_.badBus x.watch.toNat),false)]=true→(0:Int)≤x.watch∧x.watch<(r_.1.length:Int))∧(gB [((bif (at' s_.badBus x.watch.toNat)then true else(at' r_.1 x.watch.toNat)),false)]=true→(0:Int)≤x.close∧x.close<(s_.closed.length:Int))∧(gB [((bif (bif (at' s_.badBus x.watch.toNat)then true else(at' r_.1 x.watch.toNat))then true else(at' s_.closed x.close.toNat)),false)]=true→(0:Int)≤x.close∧x.close<(s_.badLink.length:Int))∧(gB [((bif (bif (bif (at' s_.badBus x.watch.toNat)then true else(at' r_.1 x.watch.toNat))then true else(at' s_.closed x.close.toNat))then true else(at' s_.badLink x.close.toNat)),false)]=true→(0:Int)≤x.close∧x.close<(s_.locked.length:Int))) (
 bif (bif (bif (bif (bif (at' s_.badBus x.watch.toNat)then true else(at' r_.1 x.watch.toNat))then true else(at' s_.closed x.close.toNat))then true else(at' s_.badLink x.close.toNat))then true else(at' s_.locked x.close.toNat))then
 some (s_,false)
 else
 (aY s_.closed).bind fun r_1=>
 bJ ((0:Int)≤x.close∧x.close<(r_1.length:Int)) (
 bif (decide (0≤x.open_))then
 bJ (((0:Int)≤x.open_∧x.open_<(s_.badLink.length:Int))∧(gB [((at' s_.badLink x.open_.toNat),false)]=true→(0:Int)≤x.open_∧x.open_<(s_.locked.length:Int))) (
 bif (bif (at' s_.badLink x.open_.toNat)then true else(at' s_.locked x.open_.toNat))then
 some (s_,false)
 else
 bJ ((0:Int)≤x.open_∧x.open_<((r_1.set x.close.toNat true).length:Int)) (
 (dP p (⟨((r_1.set x.close.toNat true).set x.open_.toNat false),s_.locked,s_.badLink,s_.on_,s_.badSource,s_.earthed,s_.badBus⟩:State)).bind fun r_2=>
 Option.bind (ay (iQ s_ r_ r_2) FUEL (0)) fun o=>match o with
 | .ret v=>some v
 | .brk _=>
 (dM p s_).bind fun r_3=>
 (dM p (⟨((r_1.set x.close.toNat true).set x.open_.toNat false),s_.locked,s_.badLink,s_.on_,s_.badSource,s_.earthed,s_.badBus⟩:State)).bind fun r_4=>
 (bif gB [((!(at' r_2.1 x.watch.toNat)),false)]then dw r_4.1 r_3.1 else some default).bind fun r_5=>
 bJ ((0:Int)≤x.watch∧x.watch<(r_2.1.length:Int)) (
 bif (bif (!(at' r_2.1 x.watch.toNat))then true else r_5)then
 some (s_,false)
 else
 some ((⟨((r_1.set x.close.toNat true).set x.open_.toNat false),s_.locked,s_.badLink,s_.on_,s_.badSource,s_.earthed,s_.badBus⟩:State),true))))
 else
 (dP p (⟨(r_1.set x.close.toNat true),s_.locked,s_.badLink,s_.on_,s_.badSource,s_.earthed,s_.badBus⟩:State)).bind fun r_6=>
 Option.bind (ay (vY s_ r_ r_6) FUEL (0)) fun o=>match o with
 | .ret v=>some v
 | .brk _=>
 (dM p s_).bind fun r_7=>
 (dM p (⟨(r_1.set x.close.toNat true),s_.locked,s_.badLink,s_.on_,s_.badSource,s_.earthed,s_.badBus⟩:State)).bind fun r_8=>
 (bif gB [((!(at' r_6.1 x.watch.toNat)),false)]then dw r_8.1 r_7.1 else some default).bind fun r_9=>
 bJ ((0:Int)≤x.watch∧x.watch<(r_6.1.length:Int)) (
 bif (bif (!(at' r_6.1 x.watch.toNat))then true else r_9)then
 some (s_,false)
 else
 some ((⟨(r_1.set x.close.toNat true),s_.locked,s_.badLink,s_.on_,s_.badSource,s_.earthed,s_.badBus⟩:State),true))))
def nX (x28:Int) (x29:(List Bool)) (x291:(List Bool)) (x292:(List Bool)) (x293:(List Bool)) (x294:(List Bool)) (x295:(List Bool)) (x296:(List Bool)) (state:State) (o_:(List Int)):Option (State × (List Int)):=
 bJ (((o_.length+[x28].length)*8≤140737488355328)∧(o_.length+[x28].length≤4611686018427387904)) (
 some ((⟨x29,x291,x292,x293,x294,x295,x296⟩:State),(o_++[x28])))
def jZ (x1:(List Transfer)) (x2:Int) (x21:(List Source)) (x22:(List Link)) (x23:(List aS)) (state:State) (o100:(List Bool)) (o110:(List Int)) (done:(List Bool)):Int→Option (aP Int (Ex Unit (aP ((List Bool) × (List Int) × (List Bool)) (Ex ((List Bool) × (List Int)) (State × State × (List Int)))))):=
 fun t15=>
 bif (decide (t15<(x1.length:Int)))then
 bJ ((0:Int)≤t15∧t15<(x1.length:Int)) (
 bJ ((0:Int)≤t15∧t15<(done.length:Int)) (
 bif (at' done t15.toNat)then
 some (.next (IntKind.wrap .i64 (t15+1)))
 else
 (oz (⟨x2,x21,x22,x23⟩:ah) (⟨o100,state.locked,state.badLink,state.on_,state.badSource,state.earthed,state.badBus⟩:State) (at' x1 t15.toNat)).bind fun r_=>
 bif r_.2 then
 bJ ((0:Int)≤t15∧t15<(done.length:Int)) (
 (nX t15 r_.1.closed state.locked state.badLink state.on_ state.badSource state.earthed state.badBus (⟨o100,state.locked,state.badLink,state.on_,state.badSource,state.earthed,state.badBus⟩:State) o110).bind fun r_1=>
 some (.done (.ret (.next (r_.1.closed,r_1.2,(done.set t15.toNat true))))))
 else
 some (.next (IntKind.wrap .i64 (t15+1)))))
 else
 some (.done (.brk ()))
def j4 (x1:(List Transfer)) (x2:Int) (x21:(List Source)) (x22:(List Link)) (x23:(List aS)) (state:State):((List Bool) × (List Int) × (List Bool))→Option (aP ((List Bool) × (List Int) × (List Bool)) (Ex ((List Bool) × (List Int)) (State × State × (List Int)))):=
 fun zz=>match zz with
 |(o100,o110,done)=>
 Option.bind (ay (jZ x1 x2 x21 x22 x23 state o100 o110 done) FUEL (0)) fun o=>match o with
 | .ret v=>some v
 | .brk _=>
 some (.done (.brk (o100,o110)))
def qE (x1:(List Transfer)) (x2:Int) (x21:(List Source)) (x22:(List Link)) (x23:(List aS)) (state:State) (state1:State) (o_:(List Int)):Option (State × State × (List Int)):=
 Option.bind (α:=Unit) (
 bJ (((0:Int)≤(x1.length:Int))∧((1:Int)*(x1.length:Int)≤281474976710656)∧(((x1.length:Int):Int)≤9223372036854775807)) (
 some ())) fun _=>
 Option.bind (ay (j4 x1 x2 x21 x22 x23 state) FUEL (state.closed,o_,(List.replicate ((x1.length:Int).toNat) (false:Bool)))) fun o=>match o with
 | .ret v=>some v
 | .brk (o1001,o1101)=>
 some ((⟨o1001,state.locked,state.badLink,state.on_,state.badSource,state.earthed,state.badBus⟩:State),(⟨o1001,state.locked,state.badLink,state.on_,state.badSource,state.earthed,state.badBus⟩:State),o1101)
def dY (p:ah) (s_:State) (l:(List Transfer)):Option (State × (List Int) × Int):=
 (dD p s_ l).bind fun r_=>
 bif (!decide (r_=0))then
 some ((⟨([]:List Bool),([]:List Bool),([]:List Bool),([]:List Bool),([]:List Bool),([]:List Bool),([]:List Bool)⟩:State),([]:List Int),r_)
 else
 (pI s_).bind fun r_1=>
 (pJ p r_1 l).bind fun r_2=>
 (qE r_2.1 r_2.2.1 r_2.2.2.1 r_2.2.2.2.1 r_2.2.2.2.2.1 r_1 r_1 ([]:List Int)).bind fun r_3=>
 some ((⟨r_3.1.closed,r_1.locked,r_1.badLink,r_1.on_,r_1.badSource,r_1.earthed,r_1.badBus⟩:State),r_3.2.2,0)
def Cf (a:(List Int)) (b:(List Int)):Int→Option (aP Int (Ex Unit Bool)):=
 fun i=>
 bif (decide (i<(a.length:Int)))then
 bJ (((0:Int)≤i∧i<(a.length:Int))∧((0:Int)≤i∧i<(b.length:Int))) (
 bif (!decide ((at' a i.toNat)=(at' b i.toNat)))then
 some (.done (.ret false))
 else
 some (.next (IntKind.wrap .i64 (i+1))))
 else
 some (.done (.brk ()))
def qd (a:(List Int)) (b:(List Int)):Option Bool:=
 bif (!decide ((a.length:Int)=(b.length:Int)))then
 some false
 else
 Option.bind (ay (Cf a b) FUEL (0)) fun o=>match o with
 | .ret v=>some v
 | .brk _=>
 some true
def oZ (s_:State):Option State:=
 bJ ((0:Int)≤0∧0<(7:Int)) (
 (aY s_.closed).bind fun r_=>
 bJ ((0:Int)≤1∧1<(7:Int)) (
 (aY s_.locked).bind fun r_1=>
 bJ ((0:Int)≤2∧2<(7:Int)) (
 (aY s_.badLink).bind fun r_2=>
 bJ ((0:Int)≤3∧3<(7:Int)) (
 (aY s_.on_).bind fun r_3=>
 bJ ((0:Int)≤4∧4<(7:Int)) (
 (aY s_.badSource).bind fun r_4=>
 bJ ((0:Int)≤5∧5<(7:Int)) (
 (aY s_.earthed).bind fun r_5=>
 bJ ((0:Int)≤6∧6<(7:Int)) (
 (aY s_.badBus).bind fun r_6=>
 some (⟨r_,r_1,r_2,r_3,r_4,r_5,r_6⟩:State))))))))
def kP (p:ah) (s_:State) (x:Part) (is:Bool):Option (State × Int):=
 (cK p s_).bind fun r_=>
 bif (!decide (r_=0))then
 some ((⟨([]:List Bool),([]:List Bool),([]:List Bool),([]:List Bool),([]:List Bool),([]:List Bool),([]:List Bool)⟩:State),r_)
 else
 (oZ s_).bind fun r_1=>
 bif (bX x.kind 1)then
 (aQ x.index 0 (IntKind.wrap .i64 ((r_1.badBus.length:Int) - 1))).bind fun r_2=>
 bif (!r_2)then
 some ((⟨([]:List Bool),([]:List Bool),([]:List Bool),([]:List Bool),([]:List Bool),([]:List Bool),([]:List Bool)⟩:State),14)
 else
 bJ ((0:Int)≤x.index∧x.index<(r_1.badBus.length:Int)) (
 some ((⟨r_1.closed,r_1.locked,r_1.badLink,r_1.on_,r_1.badSource,r_1.earthed,(r_1.badBus.set x.index.toNat is)⟩:State),0))
 else
 bif (bX x.kind 2)then
 (aQ x.index 0 (IntKind.wrap .i64 ((r_1.badSource.length:Int) - 1))).bind fun r_3=>
 bif (!r_3)then
 some ((⟨([]:List Bool),([]:List Bool),([]:List Bool),([]:List Bool),([]:List Bool),([]:List Bool),([]:List Bool)⟩:State),14)
 else
 bJ ((0:Int)≤x.index∧x.index<(r_1.badSource.length:Int)) (
 some ((⟨r_1.closed,r_1.locked,r_1.badLink,r_1.on_,(r_1.badSource.set x.index.toNat is),r_1.earthed,r_1.badBus⟩:State),0))
 else
 bif (bX x.kind 3)then
 (aQ x.index 0 (IntKind.wrap .i64 ((r_1.badLink.length:Int) - 1))).bind fun r_4=>
 bif (!r_4)then
 some ((⟨([]:List Bool),([]:List Bool),([]:List Bool),([]:List Bool),([]:List Bool),([]:List Bool),([]:List Bool)⟩:State),14)
 else
 bJ ((0:Int)≤x.index∧x.index<(r_1.badLink.length:Int)) (
 some ((⟨r_1.closed,r_1.locked,(r_1.badLink.set x.index.toNat is),r_1.on_,r_1.badSource,r_1.earthed,r_1.badBus⟩:State),0))
 else
 (aQ x.index 0 (-1)).bind fun r_5=>
 bif (!r_5)then
 some ((⟨([]:List Bool),([]:List Bool),([]:List Bool),([]:List Bool),([]:List Bool),([]:List Bool),([]:List Bool)⟩:State),14)
 else
 none
def oq (p:ah) (s_:State) (x:Part):Option (State × Int):=
 (kP p s_ x true).bind fun r_=>
 some (r_.1,r_.2)
def kQ (p:ah) (parts:(List Part)):((List Bool) × (List Bool) × (List Bool) × (List Bool) × (List Bool) × (List Bool) × (List Bool) × Int)→Option (aP ((List Bool) × (List Bool) × (List Bool) × (List Bool) × (List Bool) × (List Bool) × (List Bool) × Int) (Ex ((List Bool) × (List Bool) × (List Bool) × (List Bool) × (List Bool) × (List Bool) × (List Bool)) (State × Int))):=
 fun zz=>match zz with
 |(s0,s1,s2,s3,s4,s5,s6,t26)=>
 bif (decide (t26<(parts.length:Int)))then
 bJ ((0:Int)≤t26∧t26<(parts.length:Int)) (
 (oq p (⟨s0,s1,s2,s3,s4,s5,s6⟩:State) (at' parts t26.toNat)).bind fun r_1=>
 bif (!decide (r_1.2=0))then
 some (.done (.ret ((⟨([]:List Bool),([]:List Bool),([]:List Bool),([]:List Bool),([]:List Bool),([]:List Bool),([]:List Bool)⟩:State),r_1.2)))
 else
 some (.next (r_1.1.closed,r_1.1.locked,r_1.1.badLink,r_1.1.on_,r_1.1.badSource,r_1.1.earthed,r_1.1.badBus,(IntKind.wrap .i64 (t26+1)))))
 else
 some (.done (.brk (s0,s1,s2,s3,s4,s5,s6)))
def lM (p:ah) (s_:State) (l:(List Transfer)) (parts:(List Part)):Option (State × Int):=
 (dD p s_ l).bind fun r_=>
 bif (!decide (r_=0))then
 some ((⟨([]:List Bool),([]:List Bool),([]:List Bool),([]:List Bool),([]:List Bool),([]:List Bool),([]:List Bool)⟩:State),r_)
 else
 Option.bind (ay (kQ p parts) FUEL (s_.closed,s_.locked,s_.badLink,s_.on_,s_.badSource,s_.earthed,s_.badBus,0)) fun o=>match o with
 | .ret v=>some v
 | .brk (s01,s11,s21,s31,s41,s51,s61)=>
 (dY p (⟨s01,s11,s21,s31,s41,s51,s61⟩:State) l).bind fun r_2=>
 some (r_2.1,r_2.2.2)
def jy (p:ah) (s_:State) (rack:Int):Option Int:=
 (cK p s_).bind fun r_=>
 bif (!decide (r_=0))then
 some r_
 else
 bif (bif (decide (rack<0))then true else(decide ((p.racks.length:Int)≤rack)))then
 some 13
 else
 some 0
def kG (p:ah) (t24:Int):((List Part) × Int)→Option (aP ((List Part) × Int) (Ex (List Part) (aP ((List Part) × Int) (Ex (List Part) ((List Part) × Int))))):=
 fun zz=>match zz with
 |(out2,t30)=>
 bif (decide (t30<(at' [p.buses,(p.sources.length:Int),(p.links.length:Int)] t24.toNat)))then
 bJ (((out2.length+[(⟨(IntKind.wrap .i64 (t24+1)),t30⟩:Part)].length)*16≤140737488355328)∧(out2.length+[(⟨(IntKind.wrap .i64 (t24+1)),t30⟩:Part)].length≤4611686018427387904)) (
 some (.next ((out2++[(⟨(IntKind.wrap .i64 (t24+1)),t30⟩:Part)]),(IntKind.wrap .i64 (t30+1)))))
 else
 some (.done (.brk out2))
def iR (p:ah):((List Part) × Int)→Option (aP ((List Part) × Int) (Ex (List Part) ((List Part) × Int))):=
 fun zz=>match zz with
 |(out,t24)=>
 bif (decide (t24<([p.buses,(p.sources.length:Int),(p.links.length:Int)].length:Int)))then
 bJ ((0:Int)≤t24∧t24<([p.buses,(p.sources.length:Int),(p.links.length:Int)].length:Int)) (
 Option.bind (ay (kG p t24) FUEL (out,0)) fun o=>match o with
 | .ret v=>some v
 | .brk out3=>
 some (.next (out3,(IntKind.wrap .i64 (t24+1)))))
 else
 some (.done (.brk out))
def jS (p:ah):Option ((List Part) × Int):=
 (ou p).bind fun r_=>
 bif (!decide (r_=0))then
 some (([]:List Part),r_)
 else
 Option.bind (ay (iR p) FUEL (([]:List Part),0)) fun o=>match o with
 | .ret v=>some v
 | .brk out1=>
 some (out1,0)
def dG (a:Int) (b:Int) (graph:Graph):Option Graph:=
 bJ ((((aD a graph.aF.e0).length+[b].length)*8≤140737488355328)∧((aD a graph.aF.e0).length+[b].length≤4611686018427387904)) (
 some (⟨graph.parts,(⟨(gK a ((aD a graph.aF.e0)++[b]) graph.aF.e0),graph.aF.e1⟩:aC)⟩:Graph))
def mH (s_:(List Part)) (v_:Part):Int→Option (aP Int (Ex Unit Int)):=
 fun t8=>
 bif (decide (t8<(s_.length:Int)))then
 bJ ((0:Int)≤t8∧t8<(s_.length:Int)) (
 bif ((decide (v_.kind=((at' s_ t8.toNat).kind))) && ((decide (v_.index=((at' s_ t8.toNat).index))) && true))then
 some (.done (.ret t8))
 else
 some (.next (IntKind.wrap .i64 (t8+1))))
 else
 some (.done (.brk ()))
def fF (s_:(List Part)) (v_:Part):Option Int:=
 Option.bind (ay (mH s_ v_) FUEL (0)) fun o=>match o with
 | .ret v=>some v
 | .brk _=>
 some (-1)
def bL (kz:Int) (i:Int) (graph:Graph):Option Int:=
 (fF graph.parts (⟨kz,i⟩:Part)).bind fun r_=>
 some r_
def fT (r_:((List Part) × Int)):((List (Int × (List Int))) × Int)→Option (aP ((List (Int × (List Int))) × Int) (Ex (List (Int × (List Int))) Graph)):=
 fun zz=>match zz with
 |(g01,t41)=>
 bif (decide (t41<(r_.1.length:Int)))then
 (dG (IntKind.wrap .i64 ((2:Int)*t41)) (IntKind.wrap .i64 ((IntKind.wrap .i64 ((2:Int)*t41))+1)) (⟨r_.1,(⟨g01,([]:(List (Int × (List Int))))⟩:aC)⟩:Graph)).bind fun r_1=>
 some (.next (r_1.aF.e0,(IntKind.wrap .i64 (t41+1))))
 else
 some (.done (.brk g01))
def fO (p:ah) (s_:State) (r_:((List Part) × Int)):((List (Int × (List Int))) × Int)→Option (aP ((List (Int × (List Int))) × Int) (Ex (List (Int × (List Int))) Graph)):=
 fun zz=>match zz with
 |(g012,t55)=>
 bif (decide (t55<(p.sources.length:Int)))then
 bJ ((0:Int)≤t55∧t55<(p.sources.length:Int)) (
 bJ (((0:Int)≤t55∧t55<(s_.on_.length:Int))∧(gB [((at' s_.on_ t55.toNat),true)]=true→(0:Int)≤t55∧t55<(s_.badSource.length:Int))∧(gB [((bif (at' s_.on_ t55.toNat)then(!(at' s_.badSource t55.toNat))else false),true)]=true→(0:Int)≤(at' p.sources t55.toNat).bus∧(at' p.sources t55.toNat).bus<(s_.badBus.length:Int))) (
 bif (bif (bif (at' s_.on_ t55.toNat)then(!(at' s_.badSource t55.toNat))else false)then(!(at' s_.badBus (((at' p.sources t55.toNat).bus).toNat)))else false)then
 (bL 2 t55 (⟨r_.1,(⟨g012,([]:(List (Int × (List Int))))⟩:aC)⟩:Graph)).bind fun r_2=>
 (dG (-1) (IntKind.wrap .i64 ((2:Int)*r_2)) (⟨r_.1,(⟨g012,([]:(List (Int × (List Int))))⟩:aC)⟩:Graph)).bind fun r_3=>
 (bL 1 ((at' p.sources t55.toNat).bus) (⟨r_.1,(⟨r_3.aF.e0,([]:(List (Int × (List Int))))⟩:aC)⟩:Graph)).bind fun r_4=>
 (dG (IntKind.wrap .i64 ((IntKind.wrap .i64 ((2:Int)*r_2))+1)) (IntKind.wrap .i64 ((2:Int)*r_4)) (⟨r_.1,(⟨r_3.aF.e0,([]:(List (Int × (List Int))))⟩:aC)⟩:Graph)).bind fun r_5=>
 some (.next (r_5.aF.e0,(IntKind.wrap .i64 (t55+1))))
 else
 some (.next (g012,(IntKind.wrap .i64 (t55+1))))))
 else
 some (.done (.brk g012))
def dA (p:ah) (r_:((List Part) × Int)) (t103:Int) (r_6:Int):((List (Int × (List Int))) × Int)→Option (aP ((List (Int × (List Int))) × Int) (Ex (List (Int × (List Int))) (aP ((List (Int × (List Int))) × Int) (Ex (List (Int × (List Int))) Graph)))):=
 fun zz=>match zz with
 |(g016,t145)=>
 bif (decide (t145<2))then
 bJ ((0:Int)≤t145∧t145<((2:Nat):Int)) (
 (bL 1 (at' [(at' p.links t103.toNat).a,(at' p.links t103.toNat).b] t145.toNat) (⟨r_.1,(⟨g016,([]:(List (Int × (List Int))))⟩:aC)⟩:Graph)).bind fun r_7=>
 (dG (IntKind.wrap .i64 ((IntKind.wrap .i64 ((2:Int)*r_7))+1)) (IntKind.wrap .i64 ((2:Int)*r_6)) (⟨r_.1,(⟨g016,([]:(List (Int × (List Int))))⟩:aC)⟩:Graph)).bind fun r_8=>
 (bL 1 (at' [(at' p.links t103.toNat).a,(at' p.links t103.toNat).b] t145.toNat) (⟨r_.1,(⟨r_8.aF.e0,([]:(List (Int × (List Int))))⟩:aC)⟩:Graph)).bind fun r_9=>
 (dG (IntKind.wrap .i64 ((IntKind.wrap .i64 ((2:Int)*r_6))+1)) (IntKind.wrap .i64 ((2:Int)*r_9)) (⟨r_.1,(⟨r_8.aF.e0,([]:(List (Int × (List Int))))⟩:aC)⟩:Graph)).bind fun r_10=>
 some (.next (r_10.aF.e0,(IntKind.wrap .i64 (t145+1)))))
 else
 some (.done (.brk g016))
def fM (p:ah) (s_:State) (r_:((List Part) × Int)):((List (Int × (List Int))) × Int)→Option (aP ((List (Int × (List Int))) × Int) (Ex (List (Int × (List Int))) Graph)):=
 fun zz=>match zz with
 |(g014,t103)=>
 bif (decide (t103<(p.links.length:Int)))then
 bJ ((0:Int)≤t103∧t103<(p.links.length:Int)) (
 bJ (((0:Int)≤t103∧t103<(s_.closed.length:Int))∧(gB [((!(at' s_.closed t103.toNat)),false)]=true→(0:Int)≤t103∧t103<(s_.badLink.length:Int))∧(gB [((bif (!(at' s_.closed t103.toNat))then true else(at' s_.badLink t103.toNat)),false)]=true→(0:Int)≤(at' p.links t103.toNat).a∧(at' p.links t103.toNat).a<(s_.badBus.length:Int))∧(gB [((bif (bif (!(at' s_.closed t103.toNat))then true else(at' s_.badLink t103.toNat))then true else(at' s_.badBus (((at' p.links t103.toNat).a).toNat))),false)]=true→(0:Int)≤(at' p.links t103.toNat).b∧(at' p.links t103.toNat).b<(s_.badBus.length:Int))) (
 bif (bif (bif (bif (!(at' s_.closed t103.toNat))then true else(at' s_.badLink t103.toNat))then true else(at' s_.badBus (((at' p.links t103.toNat).a).toNat)))then true else(at' s_.badBus (((at' p.links t103.toNat).b).toNat)))then
 some (.next (g014,(IntKind.wrap .i64 (t103+1))))
 else
 (bL 3 t103 (⟨r_.1,(⟨g014,([]:(List (Int × (List Int))))⟩:aC)⟩:Graph)).bind fun r_6=>
 Option.bind (ay (dA p r_ t103 r_6) FUEL (g014,0)) fun o=>match o with
 | .ret v=>some v
 | .brk g017=>
 some (.next (g017,(IntKind.wrap .i64 (t103+1))))))
 else
 some (.done (.brk g014))
def fQ (p:ah) (s_:State) (rack:Int) (r_:((List Part) × Int)):((List (Int × (List Int))) × Int)→Option (aP ((List (Int × (List Int))) × Int) (Ex (List (Int × (List Int))) Graph)):=
 fun zz=>match zz with
 |(g018,t174)=>
 bif (decide (t174<2))then
 bJ ((0:Int)≤t174∧t174<((2:Nat):Int)) (
 bJ (gB [((decide (0≤(at' [((at' p.racks rack.toNat).feeds).e0,((at' p.racks rack.toNat).feeds).e1] t174.toNat))),true)]=true→(0:Int)≤(at' [((at' p.racks rack.toNat).feeds).e0,((at' p.racks rack.toNat).feeds).e1] t174.toNat)∧(at' [((at' p.racks rack.toNat).feeds).e0,((at' p.racks rack.toNat).feeds).e1] t174.toNat)<(s_.badBus.length:Int)) (
 bif (bif (decide (0≤(at' [((at' p.racks rack.toNat).feeds).e0,((at' p.racks rack.toNat).feeds).e1] t174.toNat)))then(!(at' s_.badBus ((at' [((at' p.racks rack.toNat).feeds).e0,((at' p.racks rack.toNat).feeds).e1] t174.toNat).toNat)))else false)then
 (bL 1 (at' [((at' p.racks rack.toNat).feeds).e0,((at' p.racks rack.toNat).feeds).e1] t174.toNat) (⟨r_.1,(⟨g018,([]:(List (Int × (List Int))))⟩:aC)⟩:Graph)).bind fun r_11=>
 (dG (IntKind.wrap .i64 ((IntKind.wrap .i64 ((2:Int)*r_11))+1)) (-2) (⟨r_.1,(⟨g018,([]:(List (Int × (List Int))))⟩:aC)⟩:Graph)).bind fun r_12=>
 some (.next (r_12.aF.e0,(IntKind.wrap .i64 (t174+1))))
 else
 some (.next (g018,(IntKind.wrap .i64 (t174+1))))))
 else
 some (.done (.brk g018))
def kU (p:ah) (s_:State) (rack:Int):Option Graph:=
 (jS p).bind fun r_=>
 Option.bind (ay (fT r_) FUEL (([]:(List (Int × (List Int)))),0)) fun o=>match o with
 | .ret v=>some v
 | .brk g011=>
 Option.bind (ay (fO p s_ r_) FUEL (g011,0)) fun o=>match o with
 | .ret v=>some v
 | .brk g013=>
 Option.bind (ay (fM p s_ r_) FUEL (g013,0)) fun o=>match o with
 | .ret v=>some v
 | .brk g015=>
 bJ ((0:Int)≤rack∧rack<(p.racks.length:Int)) (
 Option.bind (ay (fQ p s_ rack r_) FUEL (g015,0)) fun o=>match o with
 | .ret v=>some v
 | .brk g019=>
 some (⟨r_.1,(⟨g019,([]:(List (Int × (List Int))))⟩:aC)⟩:Graph))
def pq (s_:(List Int)) (s_nn:Bool):Option (List Int):=
 bif (!s_nn)then
 some ([]:List Int)
 else
 bJ (((([]:List Int).length+s_.length)*8≤140737488355328)∧(([]:List Int).length+s_.length≤4611686018427387904)) (
 some (([]:List Int)++s_))
def jW (s:(List Int)):Option (List Int):=pq s true
def mJ (s_:(List Int)) (v_:Int):Int→Option (aP Int (Ex Unit Int)):=
 fun t8=>
 bif (decide (t8<(s_.length:Int)))then
 bJ ((0:Int)≤t8∧t8<(s_.length:Int)) (
 bif (decide (v_=(at' s_ t8.toNat)))then
 some (.done (.ret t8))
 else
 some (.next (IntKind.wrap .i64 (t8+1))))
 else
 some (.done (.brk ()))
def fD (s_:(List Int)) (v_:Int):Option Int:=
 Option.bind (ay (mJ s_ v_) FUEL (0)) fun o=>match o with
 | .ret v=>some v
 | .brk _=>
 some (-1)
def lu (s:List Int) (i j:Int):Option (List Int):=R4 s i j
def eG (a:Int) (b:Int) (from_:Int) (graph:Graph):Option Graph:=
 bif (decide (from_=0))then
 (fD (aD a graph.aF.e0) b).bind fun r_=>
 (lu (aD a graph.aF.e0) r_ (IntKind.wrap .i64 (r_+1))).bind fun r_1=>
 bJ ((((aD a graph.aF.e1).length+[b].length)*8≤140737488355328)∧((aD a graph.aF.e1).length+[b].length≤4611686018427387904)) (
 some (⟨graph.parts,(⟨(gK a r_1 graph.aF.e0),(gK a ((aD a graph.aF.e1)++[b]) graph.aF.e1)⟩:aC)⟩:Graph))
 else
 bJ (from_=1) (
 (fD (aD a graph.aF.e1) b).bind fun r_2=>
 (lu (aD a graph.aF.e1) r_2 (IntKind.wrap .i64 (r_2+1))).bind fun r_3=>
 bJ ((((aD a graph.aF.e0).length+[b].length)*8≤140737488355328)∧((aD a graph.aF.e0).length+[b].length≤4611686018427387904)) (
 some (⟨graph.parts,(⟨(gK a ((aD a graph.aF.e0)++[b]) graph.aF.e0),(gK a r_3 graph.aF.e1)⟩:aC)⟩:Graph)))
def gU (s_:(List Int)) (v_:Int):Option Bool:=
 (fD s_ v_).bind fun r_=>
 some (decide (0≤r_))
def fA (rec:Int→(List (Int × Bool))→Graph→Option (Bool × (List (Int × Bool)) × Graph)) (at_:Int) (graph:Graph) (r_:(List Int)):((List (Int × Bool)) × (List (Int × (List Int))) × (List (Int × (List Int))) × Int)→Option (aP ((List (Int × Bool)) × (List (Int × (List Int))) × (List (Int × (List Int))) × Int) (Ex ((List (Int × Bool)) × (List (Int × (List Int))) × (List (Int × (List Int)))) (Bool × (List (Int × Bool)) × Graph))):=
 fun zz=>match zz with
 |(o0,o01,o02,t23)=>
 bif (decide (t23<(r_.length:Int)))then
 bJ ((0:Int)≤t23∧t23<(r_.length:Int)) (
 bif (!((aW bX (at' r_ t23.toNat) o0).getD false))then
 (rec (at' r_ t23.toNat) o0 (⟨graph.parts,(⟨o01,o02⟩:aC)⟩:Graph)).bind fun r_1=>
 bif r_1.1 then
 (eG at_ (at' r_ t23.toNat) 0 (⟨graph.parts,r_1.2.2.aF⟩:Graph)).bind fun r_2=>
 some (.done (.ret (true,r_1.2.1,(⟨graph.parts,r_2.aF⟩:Graph))))
 else
 some (.next (r_1.2.1,r_1.2.2.aF.e0,r_1.2.2.aF.e1,(IntKind.wrap .i64 (t23+1))))
 else
 some (.next (o0,o01,o02,(IntKind.wrap .i64 (t23+1)))))
 else
 some (.done (.brk (o0,o01,o02)))
def fC (rec:Int→(List (Int × Bool))→Graph→Option (Bool × (List (Int × Bool)) × Graph)) (at_:Int) (graph:Graph) (o021:(List (Int × (List Int)))):Int × List Int→((List (Int × Bool)) × (List (Int × (List Int))))→Option (aP ((List (Int × Bool)) × (List (Int × (List Int)))) (Ex Empty (Bool × (List (Int × Bool)) × Graph))):=
 fun x=>fun zz=>match zz with
 |(o04,o012)=>
 bif (bif (!((aW bX x.1 o04).getD false))then(!decide (x.1=(-1)))else false)then
 (gU x.2 at_).bind fun r_3=>
 bif r_3 then
 (rec x.1 o04 (⟨graph.parts,(⟨o012,o021⟩:aC)⟩:Graph)).bind fun r_4=>
 bif r_4.1 then
 (eG x.1 at_ 1 (⟨graph.parts,r_4.2.2.aF⟩:Graph)).bind fun r_5=>
 some (.done (.ret (true,r_4.2.1,(⟨graph.parts,r_5.aF⟩:Graph))))
 else
 bJ (r_4.2.2.aF.e1=o021) (
 some (.next (r_4.2.1,r_4.2.2.aF.e0)))
 else
 some (.next (o04,o012))
 else
 some (.next (o04,o012))
def bI (at_:Int):Int × List Int→Bool:=
 fun x=> !(decide (x.1= -1)) && nfl (gU x.2 at_)
def eu (rec:Int→(List (Int × Bool))→Graph→Option (Bool × (List (Int × Bool)) × Graph)) (at_:Int) (o_:(List (Int × Bool))) (graph:Graph):Option (Bool × (List (Int × Bool)) × Graph):=
 bif (decide (at_=(-2)))then
 some (true,o_,graph)
 else
 (jW (aD at_ graph.aF.e0)).bind fun r_=>
 Option.bind (ay (fA rec at_ graph r_) FUEL ((fH bX at_ true o_),graph.aF.e0,graph.aF.e1,0)) fun o=>match o with
 | .ret v=>some v
 | .brk (o03,o011,o021)=>
 Option.bind (goG o021 (bI at_) (fC rec at_ graph o021) (o03,o011)) fun o=>match o with
 | .ret v=>some v
 | .brk (o05,o013)=>
 some (false,o05,(⟨graph.parts,(⟨o013,o021⟩:aC)⟩:Graph))
def bM:Nat→Int→(List (Int × Bool))→Graph→Option (Bool × (List (Int × Bool)) × Graph)
 |0,_,_,_=>none
 |n+1,at_,o_,graph=>eu (bM n) at_ o_ graph
def dB (graph:Graph):Option (Bool × Graph):=
 (bM FUEL (-1) ([]:(List (Int × Bool))) graph).bind fun r_=>
 some (r_.1,(⟨graph.parts,r_.2.2.aF⟩:Graph))
def jd (graph:Graph):(Int × (List Part))→Option (aP (Int × (List Part)) (Ex (List Part) (aP ((List (List Part)) × Int) (Ex (List (List Part)) (List (List Part)))))):=
 fun zz=>match zz with
 |(at_,way)=>
 bif (!decide (at_=(-2)))then
 bJ ((2≠(0:Int))∧((0:Int)≤(IntKind.wrap .i64 (Int.tdiv at_ 2))∧(IntKind.wrap .i64 (Int.tdiv at_ 2))<(graph.parts.length:Int))∧((way.length+[(at' graph.parts ((IntKind.wrap .i64 (Int.tdiv at_ 2)).toNat))].length)*16≤140737488355328)∧(way.length+[(at' graph.parts ((IntKind.wrap .i64 (Int.tdiv at_ 2)).toNat))].length≤4611686018427387904)) (
 bJ ((0:Int)≤0∧0<(((aW bX (IntKind.wrap .i64 (at_+1)) graph.aF.e1).getD ([]:List Int)).length:Int)) (
 some (.next ((at' ((aW bX (IntKind.wrap .i64 (at_+1)) graph.aF.e1).getD ([]:List Int)) 0),(way++[(at' graph.parts ((IntKind.wrap .i64 (Int.tdiv at_ 2)).toNat))])))))
 else
 some (.done (.brk way))
def l8 (graph:Graph):((List (List Part)) × Int)→Option (aP ((List (List Part)) × Int) (Ex (List (List Part)) (List (List Part)))):=
 fun zz=>match zz with
 |(out,t14)=>
 bif (decide (t14<(((aW bX (-1) graph.aF.e1).getD ([]:List Int)).length:Int)))then
 bJ ((0:Int)≤t14∧t14<(((aW bX (-1) graph.aF.e1).getD ([]:List Int)).length:Int)) (
 Option.bind (ay (jd graph) FUEL ((at' ((aW bX (-1) graph.aF.e1).getD ([]:List Int)) t14.toNat),([]:List Part))) fun o=>match o with
 | .ret v=>some v
 | .brk way1=>
 bJ (((out.length+[way1].length)*24≤140737488355328)∧(out.length+[way1].length≤4611686018427387904)) (
 some (.next ((out++[way1]),(IntKind.wrap .i64 (t14+1))))))
 else
 some (.done (.brk out))
def fV (graph:Graph):Option (List (List Part)):=
 Option.bind (ay (l8 graph) FUEL (([]:List (List Part)),0)) fun o=>match o with
 | .ret v=>some v
 | .brk out1=>
 some out1
def fI (r_1:Graph):((List (Int × (List Int))) × (List (Int × (List Int))) × Int)→Option (aP ((List (Int × (List Int))) × (List (Int × (List Int))) × Int) (Ex ((List (Int × (List Int))) × (List (Int × (List Int)))) ((List (List Part)) × Int))):=
 fun zz=>match zz with
 |(g1,g2,t21)=>
 bif (decide (t21<2))then
 (dB (⟨r_1.parts,(⟨g1,g2⟩:aC)⟩:Graph)).bind fun r_2=>
 bif (!r_2.1)then
 some (.done (.brk (r_2.2.aF.e0,r_2.2.aF.e1)))
 else
 some (.next (r_2.2.aF.e0,r_2.2.aF.e1,(IntKind.wrap .i64 (t21+1))))
 else
 some (.done (.brk (g1,g2)))
def xA (p:ah) (s_:State) (rack:Int):Option ((List (List Part)) × Int):=
 (jy p s_ rack).bind fun r_=>
 bif (!decide (r_=0))then
 some (([]:List (List Part)),r_)
 else
 (kU p s_ rack).bind fun r_1=>
 Option.bind (ay (fI r_1) FUEL (r_1.aF.e0,r_1.aF.e1,0)) fun o=>match o with
 | .ret v=>some v
 | .brk (g11,g21)=>
 (fV (⟨r_1.parts,(⟨g11,g21⟩:aC)⟩:Graph)).bind fun r_3=>
 some (r_3,0)
def fZ (p:ah) (s_:State) (rack:Int):Option (Int × Int):=
 (xA p s_ rack).bind fun r_=>
 some ((r_.1.length:Int),r_.2)
def j6 (p:ah) (r_:((List Bool) × Int)):((List bA) × Int)→Option (aP ((List bA) × Int) (Ex (List bA) ((List bA) × Int))):=
 fun zz=>match zz with
 |(out,t26)=>
 bif (decide (t26<(p.racks.length:Int)))then
 bJ ((0:Int)≤t26∧t26<(p.racks.length:Int)) (
 bJ (gB [((decide (0≤(((at' p.racks t26.toNat).feeds).e0))),true)]=true→(0:Int)≤((at' p.racks t26.toNat).feeds).e0∧((at' p.racks t26.toNat).feeds).e0<(r_.1.length:Int)) (
 bJ (gB [((decide (0≤(((at' p.racks t26.toNat).feeds).e1))),true)]=true→(0:Int)≤((at' p.racks t26.toNat).feeds).e1∧((at' p.racks t26.toNat).feeds).e1<(r_.1.length:Int)) (
 bJ (((out.length+[(⟨(bif (decide (0≤(((at' p.racks t26.toNat).feeds).e0)))then(at' r_.1 ((((at' p.racks t26.toNat).feeds).e0).toNat))else false),(bif (decide (0≤(((at' p.racks t26.toNat).feeds).e1)))then(at' r_.1 ((((at' p.racks t26.toNat).feeds).e1).toNat))else false)⟩:bA)].length)*2≤140737488355328)∧(out.length+[(⟨(bif (decide (0≤(((at' p.racks t26.toNat).feeds).e0)))then(at' r_.1 ((((at' p.racks t26.toNat).feeds).e0).toNat))else false),(bif (decide (0≤(((at' p.racks t26.toNat).feeds).e1)))then(at' r_.1 ((((at' p.racks t26.toNat).feeds).e1).toNat))else false)⟩:bA)].length≤4611686018427387904)) (
 some (.next ((out++[(⟨(bif (decide (0≤(((at' p.racks t26.toNat).feeds).e0)))then(at' r_.1 ((((at' p.racks t26.toNat).feeds).e0).toNat))else false),(bif (decide (0≤(((at' p.racks t26.toNat).feeds).e1)))then(at' r_.1 ((((at' p.racks t26.toNat).feeds).e1).toNat))else false)⟩:bA)]),(IntKind.wrap .i64 (t26+1))))))))
 else
 some (.done (.brk out))
def uT (p:ah) (s_:State):Option ((List bA) × Int):=
 (dP p s_).bind fun r_=>
 bif (!decide (r_.2=0))then
 some (([]:List bA),r_.2)
 else
 Option.bind (ay (j6 p r_) FUEL (([]:List bA),0)) fun o=>match o with
 | .ret v=>some v
 | .brk out1=>
 some (out1,0)
def jD (p:ah) (s_:State) (rack:Int):Option Bool:=
 (uT p s_).bind fun r_=>
 bJ (((0:Int)≤rack∧rack<(r_.1.length:Int))∧(gB [((at' r_.1 rack.toNat).e0,false)]=true→(0:Int)≤rack∧rack<(r_.1.length:Int))) (
 some (bif (at' r_.1 rack.toNat).e0 then true else(at' r_.1 rack.toNat).e1))
def mF (s_:State) (x:Part):Option Bool:=
 bJ (((0:Int)≤x.kind∧x.kind<([([]:List Bool),s_.badBus,s_.badSource,s_.badLink].length:Int))∧((0:Int)≤x.index∧x.index<((at' [([]:List Bool),s_.badBus,s_.badSource,s_.badLink] x.kind.toNat).length:Int))) (
 some (at' (at' [([]:List Bool),s_.badBus,s_.badSource,s_.badLink] x.kind.toNat) x.index.toNat))
def lG (x:Part) (x1:(List Bool)) (x11:(List Bool)) (x12:(List Bool)) (x13:(List Bool)) (x14:(List Bool)) (x15:(List Bool)) (x16:(List Bool)):Option Bool:=
 (mF (⟨x1,x11,x12,x13,x14,x15,x16⟩:State) x).bind fun r_=>
 some r_
def jT (s_:(List Part)) (f_:(List Bool)) (f_1:(List Bool)) (f_2:(List Bool)) (f_3:(List Bool)) (f_4:(List Bool)) (f_5:(List Bool)) (f_6:(List Bool)):Int→Option (aP Int (Ex Unit Int)):=
 fun t8=>
 bif (decide (t8<(s_.length:Int)))then
 (lG (at' s_ t8.toNat) f_ f_1 f_2 f_3 f_4 f_5 f_6).bind fun r_=>
 bJ ((0:Int)≤t8∧t8<(s_.length:Int)) (
 bif r_ then
 some (.done (.ret t8))
 else
 some (.next (IntKind.wrap .i64 (t8+1))))
 else
 some (.done (.brk ()))
def je (s_:(List Part)) (f_:(List Bool)) (f_1:(List Bool)) (f_2:(List Bool)) (f_3:(List Bool)) (f_4:(List Bool)) (f_5:(List Bool)) (f_6:(List Bool)):Option Int:=
 Option.bind (ay (jT s_ f_ f_1 f_2 f_3 f_4 f_5 f_6) FUEL (0)) fun o=>match o with
 | .ret v=>some v
 | .brk _=>
 some (-1)
def fK (del:(List Bool)) (del1:(List Bool)) (del2:(List Bool)) (del3:(List Bool)) (del4:(List Bool)) (del5:(List Bool)) (del6:(List Bool)):((List Part) × Int × Int)→Option (aP ((List Part) × Int × Int) (Ex ((List Part) × Int) (List Part))):=
 fun zz=>match zz with
 |(o_,i,j)=>
 bif (decide (j<(o_.length:Int)))then
 bJ ((0:Int)≤j∧j<(o_.length:Int)) (
 (lG (at' o_ j.toNat) del del1 del2 del3 del4 del5 del6).bind fun r_1=>
 bif (!r_1)then
 bJ ((0:Int)≤i∧i<(o_.length:Int)) (
 some (.next ((o_.set i.toNat (at' o_ j.toNat)),(IntKind.wrap .i64 (i+1)),(IntKind.wrap .i64 (j+1)))))
 else
 some (.next (o_,i,(IntKind.wrap .i64 (j+1)))))
 else
 some (.done (.brk (o_,i)))
def iK (s_:(List Part)) (del:(List Bool)) (del1:(List Bool)) (del2:(List Bool)) (del3:(List Bool)) (del4:(List Bool)) (del5:(List Bool)) (del6:(List Bool)):Option (List Part):=
 (je s_ del del1 del2 del3 del4 del5 del6).bind fun r_=>
 bif (decide (r_=(-1)))then
 some s_
 else
 Option.bind (ay (fK del del1 del2 del3 del4 del5 del6) FUEL (s_,r_,(IntKind.wrap .i64 (r_+1)))) fun o=>match o with
 | .ret v=>some v
 | .brk (o_1,i1)=>
 bJ ((0:Int)≤i1∧i1≤(o_1.length:Int)) (
 bJ ((0:Int)≤i1∧i1≤((zG o_1 i1.toNat (⟨0,0⟩:Part)).length:Int)) (
 some ((zG o_1 i1.toNat (⟨0,0⟩:Part)).take i1.toNat)))
def iO (p:ah) (s_:State):Option (List Part):=
 (jS p).bind fun r_=>
 (iK r_.1 s_.closed s_.locked s_.badLink s_.on_ s_.badSource s_.earthed s_.badBus).bind fun r_1=>
 some r_1
def iU (x:Part) (x1:Int) (x11:(List Source)) (x12:(List Link)) (x13:(List aS)) (x2:(List Bool)) (x21:(List Bool)) (x22:(List Bool)) (x23:(List Bool)) (x24:(List Bool)) (x25:(List Bool)) (x26:(List Bool)) (x3:Int):Option Bool:=
 (oq (⟨x1,x11,x12,x13⟩:ah) (⟨x2,x21,x22,x23,x24,x25,x26⟩:State) x).bind fun r_=>
 (jD (⟨x1,x11,x12,x13⟩:ah) r_.1 x3).bind fun r_1=>
 some r_1
def iI (s_:(List Part)) (f_:Int) (f_1:(List Source)) (f_2:(List Link)) (f_3:(List aS)) (f_4:(List Bool)) (f_5:(List Bool)) (f_6:(List Bool)) (f_7:(List Bool)) (f_8:(List Bool)) (f_9:(List Bool)) (f_10:(List Bool)) (f_11:Int):Int→Option (aP Int (Ex Unit Int)):=
 fun t8=>
 bif (decide (t8<(s_.length:Int)))then
 (iU (at' s_ t8.toNat) f_ f_1 f_2 f_3 f_4 f_5 f_6 f_7 f_8 f_9 f_10 f_11).bind fun r_=>
 bJ ((0:Int)≤t8∧t8<(s_.length:Int)) (
 bif r_ then
 some (.done (.ret t8))
 else
 some (.next (IntKind.wrap .i64 (t8+1))))
 else
 some (.done (.brk ()))
def gL (s_:(List Part)) (f_:Int) (f_1:(List Source)) (f_2:(List Link)) (f_3:(List aS)) (f_4:(List Bool)) (f_5:(List Bool)) (f_6:(List Bool)) (f_7:(List Bool)) (f_8:(List Bool)) (f_9:(List Bool)) (f_10:(List Bool)) (f_11:Int):Option Int:=
 Option.bind (ay (iI s_ f_ f_1 f_2 f_3 f_4 f_5 f_6 f_7 f_8 f_9 f_10 f_11) FUEL (0)) fun o=>match o with
 | .ret v=>some v
 | .brk _=>
 some (-1)
def Ay (a:(List Part)) (b:(List Part)):Int→Option (aP Int (Ex Unit Bool)):=
 fun i=>
 bif (decide (i<(a.length:Int)))then
 bJ (((0:Int)≤i∧i<(a.length:Int))∧((0:Int)≤i∧i<(b.length:Int))) (
 bif (!((decide (((at' a i.toNat).kind)=((at' b i.toNat).kind))) && ((decide (((at' a i.toNat).index)=((at' b i.toNat).index))) && true)))then
 some (.done (.ret false))
 else
 some (.next (IntKind.wrap .i64 (i+1))))
 else
 some (.done (.brk ()))
def xG (a:(List Part)) (b:(List Part)):Option Bool:=
 bif (!decide ((a.length:Int)=(b.length:Int)))then
 some false
 else
 Option.bind (ay (Ay a b) FUEL (0)) fun o=>match o with
 | .ret v=>some v
 | .brk _=>
 some true
def mo (a:Int) (b:Int):Option Link:=
 some (⟨a,b,3,500,10,([]:List vN)⟩:Link)
def rF (sync:Int):Option (ah × State):=
 (mo 0 2).bind fun r_=>
 (mo 1 3).bind fun r_1=>
 (mo 2 3).bind fun r_2=>
 bJ (((0:Int)≤3)∧((1:Int)*3≤281474976710656)∧((3:Int)≤9223372036854775807)∧((0:Int)≤2)∧((1:Int)*2≤281474976710656)∧((2:Int)≤9223372036854775807)∧((0:Int)≤4)∧((1:Int)*4≤281474976710656)∧((4:Int)≤9223372036854775807)) (
 some ((⟨4,[(⟨0,1,500,sync,20⟩:Source),(⟨1,1,500,sync,20⟩:Source)],[r_,r_1,r_2],[(⟨(⟨2,3⟩:aj),100,2⟩:aS)]⟩:ah),(⟨[true,true,false],(List.replicate 3 (false:Bool)),(List.replicate 3 (false:Bool)),[true,true],(List.replicate 2 (false:Bool)),(List.replicate 4 (false:Bool)),(List.replicate 4 (false:Bool))⟩:State)))
def zD (a:(List Bool)) (b:(List Bool)):Int→Option (aP Int (Ex Unit Bool)):=
 fun i=>
 bif (decide (i<(a.length:Int)))then
 bJ (((0:Int)≤i∧i<(a.length:Int))∧((0:Int)≤i∧i<(b.length:Int))) (
 bif (!((at' a i.toNat)==(at' b i.toNat)))then
 some (.done (.ret false))
 else
 some (.next (IntKind.wrap .i64 (i+1))))
 else
 some (.done (.brk ()))
def nD (a:(List Bool)) (b:(List Bool)):Option Bool:=
 bif (!decide ((a.length:Int)=(b.length:Int)))then
 some false
 else
 Option.bind (ay (zD a b) FUEL (0)) fun o=>match o with
 | .ret v=>some v
 | .brk _=>
 some true
def fJ (del:Int) (del1:(List Source)) (del2:(List Link)) (del3:(List aS)) (del4:(List Bool)) (del5:(List Bool)) (del6:(List Bool)) (del7:(List Bool)) (del8:(List Bool)) (del9:(List Bool)) (del10:(List Bool)) (del11:Int):((List Part) × Int × Int)→Option (aP ((List Part) × Int × Int) (Ex ((List Part) × Int) (List Part))):=
 fun zz=>match zz with
 |(o_,i,j)=>
 bif (decide (j<(o_.length:Int)))then
 bJ ((0:Int)≤j∧j<(o_.length:Int)) (
 (iU (at' o_ j.toNat) del del1 del2 del3 del4 del5 del6 del7 del8 del9 del10 del11).bind fun r_1=>
 bif (!r_1)then
 bJ ((0:Int)≤i∧i<(o_.length:Int)) (
 some (.next ((o_.set i.toNat (at' o_ j.toNat)),(IntKind.wrap .i64 (i+1)),(IntKind.wrap .i64 (j+1)))))
 else
 some (.next (o_,i,(IntKind.wrap .i64 (j+1)))))
 else
 some (.done (.brk (o_,i)))
def iJ (s_:(List Part)) (del:Int) (del1:(List Source)) (del2:(List Link)) (del3:(List aS)) (del4:(List Bool)) (del5:(List Bool)) (del6:(List Bool)) (del7:(List Bool)) (del8:(List Bool)) (del9:(List Bool)) (del10:(List Bool)) (del11:Int):Option (List Part):=
 (gL s_ del del1 del2 del3 del4 del5 del6 del7 del8 del9 del10 del11).bind fun r_=>
 bif (decide (r_=(-1)))then
 some s_
 else
 Option.bind (ay (fJ del del1 del2 del3 del4 del5 del6 del7 del8 del9 del10 del11) FUEL (s_,r_,(IntKind.wrap .i64 (r_+1)))) fun o=>match o with
 | .ret v=>some v
 | .brk (o_1,i1)=>
 bJ ((0:Int)≤i1∧i1≤(o_1.length:Int)) (
 bJ ((0:Int)≤i1∧i1≤((zG o_1 i1.toNat (⟨0,0⟩:Part)).length:Int)) (
 some ((zG o_1 i1.toNat (⟨0,0⟩:Part)).take i1.toNat)))
def dW (p:ah) (s_:State) (rack:Int):Option ((List Part) × Int):=
 (jy p s_ rack).bind fun r_=>
 bif (!decide (r_=0))then
 some (([]:List Part),r_)
 else
 (jD p s_ rack).bind fun r_1=>
 bif (!r_1)then
 some (([]:List Part),0)
 else
 (iO p s_).bind fun r_2=>
 (iJ r_2 p.buses p.sources p.links p.racks s_.closed s_.locked s_.badLink s_.on_ s_.badSource s_.earthed s_.badBus rack).bind fun r_3=>
 some (r_3,0)
def oo:Option Bool:=
 (rF 1).bind fun r_=>
 (fZ r_.1 r_.2 0).bind fun r_1=>
 (dW r_.1 r_.2 0).bind fun r_2=>
 bif (bif (bif (bif (!decide (r_1.2=0))then true else(!decide (r_2.2=0)))then true else(!decide (r_1.1=2)))then true else(!decide ((r_2.1.length:Int)=0)))then
 some false
 else
 bJ ((0:Int)≤1∧1<(r_.2.closed.length:Int)) (
 (fZ r_.1 (⟨(r_.2.closed.set 1 false),r_.2.locked,r_.2.badLink,r_.2.on_,r_.2.badSource,r_.2.earthed,r_.2.badBus⟩:State) 0).bind fun r_3=>
 (dW r_.1 (⟨(r_.2.closed.set 1 false),r_.2.locked,r_.2.badLink,r_.2.on_,r_.2.badSource,r_.2.earthed,r_.2.badBus⟩:State) 0).bind fun r_4=>
 bif (bif (bif (!decide (r_3.2=0))then true else(!decide (r_4.2=0)))then true else(!decide (r_3.1=1)))then
 some false
 else
 (xG r_4.1 [(⟨1,0⟩:Part),(⟨1,2⟩:Part),(⟨2,0⟩:Part),(⟨3,0⟩:Part)]).bind fun r_5=>
 bif (!r_5)then
 some false
 else
 bJ ((0:Int)≤1∧1<((r_.2.closed.set 1 false).length:Int)) (
 (lM r_.1 (⟨((r_.2.closed.set 1 false).set 1 true),r_.2.locked,r_.2.badLink,r_.2.on_,r_.2.badSource,r_.2.earthed,r_.2.badBus⟩:State) [(⟨3,1,2⟩:Transfer)] [(⟨2,1⟩:Part)]).bind fun r_6=>
 bif (!decide (r_6.2=0))then
 some false
 else
 (nD r_6.1.closed [true,false,true]).bind fun r_7=>
 bif (!r_7)then
 some false
 else
 (rF 0).bind fun r_8=>
 bJ ((0:Int)≤1∧1<(r_8.2.closed.length:Int)) (
 (dY r_8.1 (⟨(r_8.2.closed.set 1 false),r_8.2.locked,r_8.2.badLink,r_8.2.on_,r_8.2.badSource,r_8.2.earthed,r_8.2.badBus⟩:State) [(⟨3,(-1),2⟩:Transfer)]).bind fun r_9=>
 (dY r_8.1 (⟨[false,false,true],r_8.2.locked,r_8.2.badLink,r_8.2.on_,r_8.2.badSource,r_8.2.earthed,r_8.2.badBus⟩:State) [(⟨3,2,1⟩:Transfer),(⟨2,(-1),0⟩:Transfer)]).bind fun r_10=>
 bJ ((0:Int)≤0∧0<(r_8.2.badLink.length:Int)) (
 (dY r_8.1 (⟨[true,false,false],r_8.2.locked,(r_8.2.badLink.set 0 true),r_8.2.on_,r_8.2.badSource,r_8.2.earthed,r_8.2.badBus⟩:State) [(⟨2,(-1),2⟩:Transfer),(⟨3,(-1),1⟩:Transfer)]).bind fun r_11=>
 bif (bif (bif (decide (r_9.2.2=0))then(decide (r_10.2.2=0))else false)then(decide (r_11.2.2=0))else false)then
 (qd r_9.2.1 [0]).bind fun r_12=>
 bif (bif (bif r_12 then(decide ((r_9.1.closed.length:Int)=3))else false)then(at' r_9.1.closed 2)else false)then
 (qd r_10.2.1 [0,1]).bind fun r_13=>
 bif r_13 then
 (nD r_10.1.closed [true,true,false]).bind fun r_14=>
 bif r_14 then
 (qd r_11.2.1 [1,0]).bind fun r_15=>
 bif r_15 then
 (nD r_11.1.closed [true,true,true]).bind fun r_16=>
 bJ (gB [((bif r_12 then(decide ((r_9.1.closed.length:Int)=3))else false),true)]=true→(0:Int)≤2∧2<(r_9.1.closed.length:Int)) (
 some r_16)
 else
 bJ (gB [((bif r_12 then(decide ((r_9.1.closed.length:Int)=3))else false),true)]=true→(0:Int)≤2∧2<(r_9.1.closed.length:Int)) (
 some false)
 else
 bJ (gB [((bif r_12 then(decide ((r_9.1.closed.length:Int)=3))else false),true)]=true→(0:Int)≤2∧2<(r_9.1.closed.length:Int)) (
 some false)
 else
 bJ (gB [((bif r_12 then(decide ((r_9.1.closed.length:Int)=3))else false),true)]=true→(0:Int)≤2∧2<(r_9.1.closed.length:Int)) (
 some false)
 else
 bJ (gB [((bif r_12 then(decide ((r_9.1.closed.length:Int)=3))else false),true)]=true→(0:Int)≤2∧2<(r_9.1.closed.length:Int)) (
 some false)
 else
 some false))))
def nO (p:ah) (s_:State) (l:(List Transfer)):((List Transfer) × Int)→Option (aP ((List Transfer) × Int) (Ex (List Transfer) (List Transfer))):=
 fun zz=>match zz with
 |(out,i)=>
 bif (bif (decide (i<(l.length:Int)))then(decide ((out.length:Int)<16))else false)then
 bJ ((0:Int)≤i∧i<(l.length:Int)) (
 (dY p s_ [(at' l i.toNat)]).bind fun r_=>
 bif (decide (r_.2.2=0))then
 bJ (((out.length+[(at' l i.toNat)].length)*24≤140737488355328)∧(out.length+[(at' l i.toNat)].length≤4611686018427387904)) (
 some (.next ((out++[(at' l i.toNat)]),(IntKind.wrap .i64 (i+1)))))
 else
 some (.next (out,(IntKind.wrap .i64 (i+1)))))
 else
 some (.done (.brk out))
def qF (p:ah) (s_:State) (l:(List Transfer)):Option (List Transfer):=
 Option.bind (ay (nO p s_ l) FUEL (([]:List Transfer),0)) fun o=>match o with
 | .ret v=>some v
 | .brk out1=>
 some out1
def dQ (l:(List Bool)):Option (List Bool):=
 bJ ((l.length*1≤140737488355328)∧(l.length≤4611686018427387904)) (
 some l)
def oG (x:State):Option State:=
 (dQ x.closed).bind fun r_=>
 (dQ x.locked).bind fun r_1=>
 (dQ x.badLink).bind fun r_2=>
 (dQ x.on_).bind fun r_3=>
 (dQ x.badSource).bind fun r_4=>
 (dQ x.earthed).bind fun r_5=>
 (dQ x.badBus).bind fun r_6=>
 some (⟨r_,r_1,r_2,r_3,r_4,r_5,r_6⟩:State)
def oF (x:Link):Int→Option (aP Int (Ex Unit Bool)):=
 fun i=>
 bif (decide (i<(x.trip.length:Int)))then
 bJ ((0:Int)≤i∧i<(x.trip.length:Int)) (
 bif (bif (bif (bif (decide (((at' x.trip i.toNat).amps)<1))then true else(decide (1000000<((at' x.trip i.toNat).amps))))then true else(decide (((at' x.trip i.toNat).millis)<1)))then true else(decide (100000<((at' x.trip i.toNat).millis))))then
 some (.done (.ret false))
 else
 bJ ((gB [((decide (0<i)),true)]=true→(0:Int)≤(IntKind.wrap .i64 (i - 1))∧(IntKind.wrap .i64 (i - 1))<(x.trip.length:Int))∧(gB [((decide (((at' x.trip i.toNat).amps)≤((at' x.trip ((IntKind.wrap .i64 (i - 1)).toNat)).amps))),false),((decide (0<i)),true)]=true→(0:Int)≤(IntKind.wrap .i64 (i - 1))∧(IntKind.wrap .i64 (i - 1))<(x.trip.length:Int))) (
 bif (bif (decide (0<i))then(bif (decide (((at' x.trip i.toNat).amps)≤((at' x.trip ((IntKind.wrap .i64 (i - 1)).toNat)).amps)))then true else(decide (((at' x.trip ((IntKind.wrap .i64 (i - 1)).toNat)).millis)≤((at' x.trip i.toNat).millis))))else false)then
 some (.done (.ret false))
 else
 some (.next (IntKind.wrap .i64 (i+1)))))
 else
 some (.done (.brk ()))
def wP (p:ah) (x:Link):Option Bool:=
 bif (bif (bif (bif (bif (bif (bif (bif (bif (bif (bif (decide (x.a<0))then true else(decide (p.buses≤x.a)))then true else(decide (x.b<0)))then true else(decide (p.buses≤x.b)))then true else(decide (x.a=x.b)))then true else(decide (x.kind<1)))then true else(decide (3<x.kind)))then true else(decide (x.most<1)))then true else(decide (100000<x.most)))then true else(decide (x.ohm<10)))then true else(decide (100000<x.ohm)))then
 some false
 else
 bif (bif (decide (6<(x.trip.length:Int)))then true else(bif (decide (0<(x.trip.length:Int)))then(!decide (x.kind=3))else false))then
 some false
 else
 Option.bind (ay (oF x) FUEL (0)) fun o=>match o with
 | .ret v=>some v
 | .brk _=>
 some true
def nN (p:ah):Int→Option (aP Int (Ex Unit Int)):=
 fun i=>
 bif (decide (i<(p.sources.length:Int)))then
 bJ ((0:Int)≤i∧i<(p.sources.length:Int)) (
 bif (bif (bif (bif (bif (bif (bif (bif (bif (bif (decide (((at' p.sources i.toNat).bus)<0))then true else(decide (p.buses≤((at' p.sources i.toNat).bus))))then true else(decide (((at' p.sources i.toNat).kind)<1)))then true else(decide (3<((at' p.sources i.toNat).kind))))then true else(decide (((at' p.sources i.toNat).power)<1)))then true else(decide (100000<((at' p.sources i.toNat).power))))then true else(decide (((at' p.sources i.toNat).sync)<0)))then true else(decide (8<((at' p.sources i.toNat).sync))))then true else(decide (((at' p.sources i.toNat).ohm)<10)))then true else(decide (100000<((at' p.sources i.toNat).ohm))))then
 some (.done (.ret 11))
 else
 some (.next (IntKind.wrap .i64 (i+1))))
 else
 some (.done (.brk ()))
def nu (p:ah):Int→Option (aP Int (Ex Unit Int)):=
 fun i1=>
 bif (decide (i1<(p.links.length:Int)))then
 (wP p (at' p.links i1.toNat)).bind fun r_=>
 bJ ((0:Int)≤i1∧i1<(p.links.length:Int)) (
 bif (!r_)then
 some (.done (.ret 12))
 else
 some (.next (IntKind.wrap .i64 (i1+1))))
 else
 some (.done (.brk ()))
def nG (p:ah):Int→Option (aP Int (Ex Unit Int)):=
 fun i2=>
 bif (decide (i2<(p.racks.length:Int)))then
 bJ ((0:Int)≤i2∧i2<(p.racks.length:Int)) (
 bif (decide ((((at' p.racks i2.toNat).feeds).e1)=(-1)))then
 bif (bif (bif (bif (bif (bif (bif (bif (bif (decide ((((at' p.racks i2.toNat).feeds).e0)<0))then true else(decide (p.buses≤(((at' p.racks i2.toNat).feeds).e0))))then true else(decide ((((at' p.racks i2.toNat).feeds).e1)<(-1))))then true else(decide (p.buses≤(((at' p.racks i2.toNat).feeds).e1))))then true else(decide ((((at' p.racks i2.toNat).feeds).e0)=(((at' p.racks i2.toNat).feeds).e1))))then true else(decide (((at' p.racks i2.toNat).power)<1)))then true else(decide (100000<((at' p.racks i2.toNat).power))))then true else(decide (((at' p.racks i2.toNat).paths)<0)))then true else(decide (1<((at' p.racks i2.toNat).paths))))then
 some (.done (.ret 13))
 else
 some (.next (IntKind.wrap .i64 (i2+1)))
 else
 bif (bif (bif (bif (bif (bif (bif (bif (bif (decide ((((at' p.racks i2.toNat).feeds).e0)<0))then true else(decide (p.buses≤(((at' p.racks i2.toNat).feeds).e0))))then true else(decide ((((at' p.racks i2.toNat).feeds).e1)<(-1))))then true else(decide (p.buses≤(((at' p.racks i2.toNat).feeds).e1))))then true else(decide ((((at' p.racks i2.toNat).feeds).e0)=(((at' p.racks i2.toNat).feeds).e1))))then true else(decide (((at' p.racks i2.toNat).power)<1)))then true else(decide (100000<((at' p.racks i2.toNat).power))))then true else(decide (((at' p.racks i2.toNat).paths)<0)))then true else(decide (2<((at' p.racks i2.toNat).paths))))then
 some (.done (.ret 13))
 else
 some (.next (IntKind.wrap .i64 (i2+1))))
 else
 some (.done (.brk ()))
def qK (p:ah):Option Int:=
 bif (bif (decide (p.buses<1))then true else(decide (24<p.buses)))then
 some 10
 else
 bif (decide (8<(p.sources.length:Int)))then
 some 11
 else
 Option.bind (ay (nN p) FUEL (0)) fun o=>match o with
 | .ret v=>some v
 | .brk _=>
 bif (decide (40<(p.links.length:Int)))then
 some 12
 else
 Option.bind (ay (nu p) FUEL (0)) fun o=>match o with
 | .ret v=>some v
 | .brk _=>
 bif (decide (24<(p.racks.length:Int)))then
 some 13
 else
 Option.bind (ay (nG p) FUEL (0)) fun o=>match o with
 | .ret v=>some v
 | .brk _=>
 some 0
def nP (p:ah) (s_:State):Int→Option (aP Int (Ex Unit Bool)):=
 fun i=>
 bif (decide (i<(p.links.length:Int)))then
 bJ (((0:Int)≤i∧i<(p.links.length:Int))∧(gB [((decide (((at' p.links i.toNat).kind)=1)),true)]=true→(0:Int)≤i∧i<(s_.closed.length:Int))∧(gB [((!(at' s_.closed i.toNat)),false),((decide (((at' p.links i.toNat).kind)=1)),true)]=true→(0:Int)≤i∧i<(s_.locked.length:Int))) (
 bif (bif (decide (((at' p.links i.toNat).kind)=1))then(bif (!(at' s_.closed i.toNat))then true else(at' s_.locked i.toNat))else false)then
 some (.done (.ret false))
 else
 some (.next (IntKind.wrap .i64 (i+1))))
 else
 some (.done (.brk ()))
def vJ (p:ah) (s_:State):Option Bool:=
 bif (bif (bif (bif (bif (bif (bif (!decide ((s_.closed.length:Int)=(p.links.length:Int)))then true else(!decide ((s_.locked.length:Int)=(p.links.length:Int))))then true else(!decide ((s_.badLink.length:Int)=(p.links.length:Int))))then true else(!decide ((s_.on_.length:Int)=(p.sources.length:Int))))then true else(!decide ((s_.badSource.length:Int)=(p.sources.length:Int))))then true else(!decide ((s_.earthed.length:Int)=p.buses)))then true else(!decide ((s_.badBus.length:Int)=p.buses)))then
 some false
 else
 Option.bind (ay (nP p s_) FUEL (0)) fun o=>match o with
 | .ret v=>some v
 | .brk _=>
 some true
def eH (p:ah) (s_:State):Option Int:=
 (qK p).bind fun r_=>
 (bif gB [((decide (r_=0)),true)]then vJ p s_ else some default).bind fun r_1=>
 bif (bif (decide (r_=0))then(!r_1)else false)then
 some 9
 else
 some r_
def qN (p:ah) (i:Int):Option Bool:=
 bJ (gB [((bif (decide (0≤i))then(decide (i<(p.links.length:Int)))else false),true)]=true→(0:Int)≤i∧i<(p.links.length:Int)) (
 some (bif (bif (decide (0≤i))then(decide (i<(p.links.length:Int)))else false)then(!decide (((at' p.links i.toNat).kind)=1))else false))
def gG (p:ah) (l:(List Transfer)):Int→Option (aP Int (Ex Unit Int)):=
 fun i=>
 bif (decide (i<(l.length:Int)))then
 bJ ((0:Int)≤i∧i<(l.length:Int)) (
 (bif gB [((bif (decide (((at' l i.toNat).watch)<0))then true else(decide (p.buses≤((at' l i.toNat).watch)))),false)]then qN p ((at' l i.toNat).close)else some default).bind fun r_1=>
 (bif gB [((!decide (((at' l i.toNat).open_)=(-1))),true),((bif (bif (decide (((at' l i.toNat).watch)<0))then true else(decide (p.buses≤((at' l i.toNat).watch))))then true else(!r_1)),false)]then qN p ((at' l i.toNat).open_)else some default).bind fun r_2=>
 bif (bif (bif (bif (decide (((at' l i.toNat).watch)<0))then true else(decide (p.buses≤((at' l i.toNat).watch))))then true else(!r_1))then true else(bif (!decide (((at' l i.toNat).open_)=(-1)))then(bif (!r_2)then true else(decide (((at' l i.toNat).open_)=((at' l i.toNat).close))))else false))then
 some (.done (.ret 1))
 else
 some (.next (IntKind.wrap .i64 (i+1))))
 else
 some (.done (.brk ()))
def fP (p:ah) (s_:State) (l:(List Transfer)):Option Int:=
 (eH p s_).bind fun r_=>
 bif (!decide (r_=0))then
 some r_
 else
 bif (decide (16<(l.length:Int)))then
 some 1
 else
 Option.bind (ay (gG p l) FUEL (0)) fun o=>match o with
 | .ret v=>some v
 | .brk _=>
 some 0
def oh (p:ah) (s_:State) (kz:Int):Option Bool:=
 bJ (((0:Int)≤kz∧kz<(s_.on_.length:Int))∧(gB [((at' s_.on_ kz.toNat),true)]=true→(0:Int)≤kz∧kz<(s_.badSource.length:Int))∧(gB [((bif (at' s_.on_ kz.toNat)then(!(at' s_.badSource kz.toNat))else false),true)]=true→(0:Int)≤kz∧kz<(p.sources.length:Int))∧(gB [((bif (at' s_.on_ kz.toNat)then(!(at' s_.badSource kz.toNat))else false),true)]=true→(0:Int)≤(at' p.sources kz.toNat).bus∧(at' p.sources kz.toNat).bus<(s_.badBus.length:Int))) (
 some (bif (bif (at' s_.on_ kz.toNat)then(!(at' s_.badSource kz.toNat))else false)then(!(at' s_.badBus (((at' p.sources kz.toNat).bus).toNat)))else false))
def qB (p:ah) (s_:State) (i:Int):Option Bool:=
 bJ (((0:Int)≤i∧i<(s_.closed.length:Int))∧(gB [((at' s_.closed i.toNat),true)]=true→(0:Int)≤i∧i<(s_.badLink.length:Int))∧(gB [((bif (at' s_.closed i.toNat)then(!(at' s_.badLink i.toNat))else false),true)]=true→(0:Int)≤i∧i<(p.links.length:Int))∧(gB [((bif (at' s_.closed i.toNat)then(!(at' s_.badLink i.toNat))else false),true)]=true→(0:Int)≤(at' p.links i.toNat).a∧(at' p.links i.toNat).a<(s_.badBus.length:Int))∧(gB [((bif (bif (at' s_.closed i.toNat)then(!(at' s_.badLink i.toNat))else false)then(!(at' s_.badBus (((at' p.links i.toNat).a).toNat)))else false),true)]=true→(0:Int)≤i∧i<(p.links.length:Int))∧(gB [((bif (bif (at' s_.closed i.toNat)then(!(at' s_.badLink i.toNat))else false)then(!(at' s_.badBus (((at' p.links i.toNat).a).toNat)))else false),true)]=true→(0:Int)≤(at' p.links i.toNat).b∧(at' p.links i.toNat).b<(s_.badBus.length:Int))) (
 some (bif (bif (bif (at' s_.closed i.toNat)then(!(at' s_.badLink i.toNat))else false)then(!(at' s_.badBus (((at' p.links i.toNat).a).toNat)))else false)then(!(at' s_.badBus (((at' p.links i.toNat).b).toNat)))else false))
def kI (p:ah) (s_:State) (b:Int):((List Bool) × Int)→Option (aP ((List Bool) × Int) (Ex (List Bool) (aP ((List Bool) × Int) (Ex (List Bool) (List Bool))))):=
 fun zz=>match zz with
 |(out2,i)=>
 bif (decide (i<(p.links.length:Int)))then
 bJ ((0:Int)≤i∧i<(p.links.length:Int)) (
 (qB p s_ i).bind fun r_=>
 bJ ((gB [(r_,true)]=true→(0:Int)≤(at' p.links i.toNat).a∧(at' p.links i.toNat).a<(out2.length:Int))∧(gB [((at' out2 (((at' p.links i.toNat).a).toNat)),false),(r_,true)]=true→(0:Int)≤(at' p.links i.toNat).b∧(at' p.links i.toNat).b<(out2.length:Int))) (
 bif (bif r_ then(bif (at' out2 (((at' p.links i.toNat).a).toNat))then true else(at' out2 (((at' p.links i.toNat).b).toNat)))else false)then
 bJ ((0:Int)≤(at' p.links i.toNat).a∧(at' p.links i.toNat).a<(out2.length:Int)) (
 bJ ((0:Int)≤(at' p.links i.toNat).b∧(at' p.links i.toNat).b<((out2.set (((at' p.links i.toNat).a).toNat) true).length:Int)) (
 some (.next (((out2.set (((at' p.links i.toNat).a).toNat) true).set (((at' p.links i.toNat).b).toNat) true),(IntKind.wrap .i64 (i+1))))))
 else
 some (.next (out2,(IntKind.wrap .i64 (i+1))))))
 else
 some (.done (.brk out2))
def kR (p:ah) (s_:State) (b:Int):((List Bool) × Int)→Option (aP ((List Bool) × Int) (Ex (List Bool) (List Bool))):=
 fun zz=>match zz with
 |(out,n)=>
 bif (decide (n<p.buses))then
 Option.bind (ay (kI p s_ b) FUEL (out,0)) fun o=>match o with
 | .ret v=>some v
 | .brk out3=>
 some (.next (out3,(IntKind.wrap .i64 (n+1))))
 else
 some (.done (.brk out))
def lN (p:ah) (s_:State) (b:Int):Option (List Bool):=
 bJ (((0:Int)≤p.buses)∧((1:Int)*p.buses≤281474976710656)∧((p.buses:Int)≤9223372036854775807)) (
 bJ ((0:Int)≤b∧b<((List.replicate p.buses.toNat (false:Bool)).length:Int)) (
 Option.bind (ay (kR p s_ b) FUEL (((List.replicate p.buses.toNat (false:Bool)).set b.toNat true),0)) fun o=>match o with
 | .ret v=>some v
 | .brk out1=>
 some out1))
def jv (p:ah) (r_2:(List Bool)):((List Bool) × Int)→Option (aP ((List Bool) × Int) (Ex (List Bool) (aP ((List Bool) × Int) (Ex (List Bool) ((List Bool) × Int))))):=
 fun zz=>match zz with
 |(out2,b)=>
 bif (decide (b<p.buses))then
 bJ (((0:Int)≤b∧b<(out2.length:Int))∧(gB [((at' out2 b.toNat),false)]=true→(0:Int)≤b∧b<(r_2.length:Int))) (
 some (.next ((out2.set b.toNat (bif (at' out2 b.toNat)then true else(at' r_2 b.toNat))),(IntKind.wrap .i64 (b+1)))))
 else
 some (.done (.brk out2))
def jw (p:ah) (s_:State):((List Bool) × Int)→Option (aP ((List Bool) × Int) (Ex (List Bool) ((List Bool) × Int))):=
 fun zz=>match zz with
 |(out,kz)=>
 bif (decide (kz<(p.sources.length:Int)))then
 (oh p s_ kz).bind fun r_1=>
 bif (!r_1)then
 some (.next (out,(IntKind.wrap .i64 (kz+1))))
 else
 (lN p s_ ((at' p.sources kz.toNat).bus)).bind fun r_2=>
 bJ ((0:Int)≤kz∧kz<(p.sources.length:Int)) (
 Option.bind (ay (jv p r_2) FUEL (out,0)) fun o=>match o with
 | .ret v=>some v
 | .brk out3=>
 some (.next (out3,(IntKind.wrap .i64 (kz+1)))))
 else
 some (.done (.brk out))
def iG (p:ah) (s_:State):Option ((List Bool) × Int):=
 (eH p s_).bind fun r_=>
 bif (!decide (r_=0))then
 some (([]:List Bool),r_)
 else
 bJ (((0:Int)≤p.buses)∧((1:Int)*p.buses≤281474976710656)∧((p.buses:Int)≤9223372036854775807)) (
 Option.bind (ay (jw p s_) FUEL ((List.replicate p.buses.toNat (false:Bool)),0)) fun o=>match o with
 | .ret v=>some v
 | .brk out1=>
 some (out1,0))
def vL (a:Source) (b:Source):Option Bool:=
 some (bif (!decide (a.sync=b.sync))then true else(decide (a.sync=0)))
def iZ (p:ah) (s_:State) (i:Int):((List aj) × Int)→Option (aP ((List aj) × Int) (Ex (List aj) (aP ((List aj) × Int) (Ex (List aj) ((List aj) × Int))))):=
 fun zz=>match zz with
 |(out2,kz)=>
 bif (decide (kz<(p.sources.length:Int)))then
 (oh p s_ i).bind fun r_1=>
 (bif gB [(r_1,true)]then oh p s_ kz else some default).bind fun r_2=>
 (bif gB [((bif r_1 then r_2 else false),true)]then lN p s_ ((at' p.sources i.toNat).bus)else some default).bind fun r_3=>
 (bif gB [((bif (bif r_1 then r_2 else false)then(at' r_3 (((at' p.sources kz.toNat).bus).toNat))else false),true)]then vL (at' p.sources i.toNat) (at' p.sources kz.toNat)else some default).bind fun r_4=>
 bJ ((gB [((bif r_1 then r_2 else false),true)]=true→(0:Int)≤i∧i<(p.sources.length:Int))∧(gB [((bif r_1 then r_2 else false),true)]=true→(0:Int)≤kz∧kz<(p.sources.length:Int))∧(gB [((bif r_1 then r_2 else false),true)]=true→(0:Int)≤(at' p.sources kz.toNat).bus∧(at' p.sources kz.toNat).bus<(r_3.length:Int))∧(gB [((bif (bif r_1 then r_2 else false)then(at' r_3 (((at' p.sources kz.toNat).bus).toNat))else false),true)]=true→(0:Int)≤i∧i<(p.sources.length:Int))∧(gB [((bif (bif r_1 then r_2 else false)then(at' r_3 (((at' p.sources kz.toNat).bus).toNat))else false),true)]=true→(0:Int)≤kz∧kz<(p.sources.length:Int))) (
 bif (bif (bif (bif r_1 then r_2 else false)then(at' r_3 (((at' p.sources kz.toNat).bus).toNat))else false)then r_4 else false)then
 bJ (((out2.length+[(⟨i,kz⟩:aj)].length)*16≤140737488355328)∧(out2.length+[(⟨i,kz⟩:aj)].length≤4611686018427387904)) (
 some (.next ((out2++[(⟨i,kz⟩:aj)]),(IntKind.wrap .i64 (kz+1)))))
 else
 some (.next (out2,(IntKind.wrap .i64 (kz+1)))))
 else
 some (.done (.brk out2))
def iV (p:ah) (s_:State):((List aj) × Int)→Option (aP ((List aj) × Int) (Ex (List aj) ((List aj) × Int))):=
 fun zz=>match zz with
 |(out,i)=>
 bif (decide (i<(p.sources.length:Int)))then
 Option.bind (ay (iZ p s_ i) FUEL (out,(IntKind.wrap .i64 (i+1)))) fun o=>match o with
 | .ret v=>some v
 | .brk out3=>
 some (.next (out3,(IntKind.wrap .i64 (i+1))))
 else
 some (.done (.brk out))
def ig (p:ah) (s_:State):Option ((List aj) × Int):=
 (eH p s_).bind fun r_=>
 bif (!decide (r_=0))then
 some (([]:List aj),r_)
 else
 Option.bind (ay (iV p s_) FUEL (([]:List aj),0)) fun o=>match o with
 | .ret v=>some v
 | .brk out1=>
 some (out1,0)
def kM (p:ah) (s_:State) (r_:((List Bool) × Int)) (r_2:((List Bool) × Int)):(Bool × Int)→Option (aP (Bool × Int) (Ex Bool (State × Bool))):=
 fun zz=>match zz with
 |(can,b)=>
 bif (decide (b<p.buses))then
 bJ (((0:Int)≤b∧b<(r_.1.length:Int))∧(gB [((at' r_.1 b.toNat),true)]=true→(0:Int)≤b∧b<(r_2.1.length:Int))∧(gB [((bif (at' r_.1 b.toNat)then(!(at' r_2.1 b.toNat))else false),false)]=true→(0:Int)≤b∧b<(r_2.1.length:Int))∧(gB [((at' r_2.1 b.toNat),true),((bif (at' r_.1 b.toNat)then(!(at' r_2.1 b.toNat))else false),false)]=true→(0:Int)≤b∧b<(s_.earthed.length:Int))∧(gB [((bif (at' r_2.1 b.toNat)then(at' s_.earthed b.toNat)else false),true),((bif (at' r_.1 b.toNat)then(!(at' r_2.1 b.toNat))else false),false)]=true→(0:Int)≤b∧b<(r_.1.length:Int))) (
 bif (bif (bif (at' r_.1 b.toNat)then(!(at' r_2.1 b.toNat))else false)then true else(bif (bif (at' r_2.1 b.toNat)then(at' s_.earthed b.toNat)else false)then(!(at' r_.1 b.toNat))else false))then
 some (.next (false,(IntKind.wrap .i64 (b+1))))
 else
 some (.next (can,(IntKind.wrap .i64 (b+1)))))
 else
 some (.done (.brk can))
def mM (r_3:((List aj) × Int)) (r_4:((List aj) × Int)) (i:Int):(Bool × Int)→Option (aP (Bool × Int) (Ex Bool (aP (Bool × Int) (Ex Bool (State × Bool))))):=
 fun zz=>match zz with
 |(there,kz)=>
 bif (decide (kz<(r_3.1.length:Int)))then
 bJ ((gB [(there,false)]=true→(0:Int)≤kz∧kz<(r_3.1.length:Int))∧(gB [(there,false)]=true→(0:Int)≤i∧i<(r_4.1.length:Int))) (
 some (.next ((bif there then true else((decide (((at' r_3.1 kz.toNat).e0)=((at' r_4.1 i.toNat).e0))) && ((decide (((at' r_3.1 kz.toNat).e1)=((at' r_4.1 i.toNat).e1))) && true))),(IntKind.wrap .i64 (kz+1)))))
 else
 some (.done (.brk there))
def ko (r_3:((List aj) × Int)) (r_4:((List aj) × Int)):(Bool × Int)→Option (aP (Bool × Int) (Ex Bool (State × Bool))):=
 fun zz=>match zz with
 |(can2,i)=>
 bif (decide (i<(r_4.1.length:Int)))then
 Option.bind (ay (mM r_3 r_4 i) FUEL (false,0)) fun o=>match o with
 | .ret v=>some v
 | .brk there1=>
 some (.next ((bif can2 then there1 else false),(IntKind.wrap .i64 (i+1))))
 else
 some (.done (.brk can2))
def yH (p:ah) (s_:State) (r_:((List Bool) × Int)) (r_5:((List Bool) × Int)):(Bool × Int)→Option (aP (Bool × Int) (Ex Bool (State × Bool))):=
 fun zz=>match zz with
 |(can4,b1)=>
 bif (decide (b1<p.buses))then
 bJ (((0:Int)≤b1∧b1<(r_.1.length:Int))∧(gB [((at' r_.1 b1.toNat),true)]=true→(0:Int)≤b1∧b1<(r_5.1.length:Int))∧(gB [((bif (at' r_.1 b1.toNat)then(!(at' r_5.1 b1.toNat))else false),false)]=true→(0:Int)≤b1∧b1<(r_5.1.length:Int))∧(gB [((at' r_5.1 b1.toNat),true),((bif (at' r_.1 b1.toNat)then(!(at' r_5.1 b1.toNat))else false),false)]=true→(0:Int)≤b1∧b1<(s_.earthed.length:Int))∧(gB [((bif (at' r_5.1 b1.toNat)then(at' s_.earthed b1.toNat)else false),true),((bif (at' r_.1 b1.toNat)then(!(at' r_5.1 b1.toNat))else false),false)]=true→(0:Int)≤b1∧b1<(r_.1.length:Int))) (
 bif (bif (bif (at' r_.1 b1.toNat)then(!(at' r_5.1 b1.toNat))else false)then true else(bif (bif (at' r_5.1 b1.toNat)then(at' s_.earthed b1.toNat)else false)then(!(at' r_.1 b1.toNat))else false))then
 some (.next (false,(IntKind.wrap .i64 (b1+1))))
 else
 some (.next (can4,(IntKind.wrap .i64 (b1+1)))))
 else
 some (.done (.brk can4))
def Ef (r_6:((List aj) × Int)) (r_7:((List aj) × Int)) (i1:Int):(Bool × Int)→Option (aP (Bool × Int) (Ex Bool (aP (Bool × Int) (Ex Bool (State × Bool))))):=
 fun zz=>match zz with
 |(there2,kz1)=>
 bif (decide (kz1<(r_6.1.length:Int)))then
 bJ ((gB [(there2,false)]=true→(0:Int)≤kz1∧kz1<(r_6.1.length:Int))∧(gB [(there2,false)]=true→(0:Int)≤i1∧i1<(r_7.1.length:Int))) (
 some (.next ((bif there2 then true else((decide (((at' r_6.1 kz1.toNat).e0)=((at' r_7.1 i1.toNat).e0))) && ((decide (((at' r_6.1 kz1.toNat).e1)=((at' r_7.1 i1.toNat).e1))) && true))),(IntKind.wrap .i64 (kz1+1)))))
 else
 some (.done (.brk there2))
def yQ (r_6:((List aj) × Int)) (r_7:((List aj) × Int)):(Bool × Int)→Option (aP (Bool × Int) (Ex Bool (State × Bool))):=
 fun zz=>match zz with
 |(can6,i1)=>
 bif (decide (i1<(r_7.1.length:Int)))then
 Option.bind (ay (Ef r_6 r_7 i1) FUEL (false,0)) fun o=>match o with
 | .ret v=>some v
 | .brk there3=>
 some (.next ((bif can6 then there3 else false),(IntKind.wrap .i64 (i1+1))))
 else
 some (.done (.brk can6))
def xZ (p:ah) (s_:State) (x:Transfer):Option (State × Bool):=
 (iG p s_).bind fun r_=>
 (oG s_).bind fun r_1=>
 bJ ((0:Int)≤x.close∧x.close<(r_1.closed.length:Int)) (
 bJ (((0:Int)≤x.watch∧x.watch<(s_.badBus.length:Int))∧(gB [((!(at' s_.badBus x.watch.toNat)),true)]=true→(0:Int)≤x.watch∧x.watch<(r_.1.length:Int))∧(gB [((bif (!(at' s_.badBus x.watch.toNat))then(!(at' r_.1 x.watch.toNat))else false),true)]=true→(0:Int)≤x.close∧x.close<(s_.closed.length:Int))∧(gB [((bif (bif (!(at' s_.badBus x.watch.toNat))then(!(at' r_.1 x.watch.toNat))else false)then(!(at' s_.closed x.close.toNat))else false),true)]=true→(0:Int)≤x.close∧x.close<(s_.badLink.length:Int))∧(gB [((bif (bif (bif (!(at' s_.badBus x.watch.toNat))then(!(at' r_.1 x.watch.toNat))else false)then(!(at' s_.closed x.close.toNat))else false)then(!(at' s_.badLink x.close.toNat))else false),true)]=true→(0:Int)≤x.close∧x.close<(s_.locked.length:Int))) (
 bif (decide (0≤x.open_))then
 bJ ((0:Int)≤x.open_∧x.open_<((r_1.closed.set x.close.toNat true).length:Int)) (
 bJ ((gB [((bif (bif (bif (bif (!(at' s_.badBus x.watch.toNat))then(!(at' r_.1 x.watch.toNat))else false)then(!(at' s_.closed x.close.toNat))else false)then(!(at' s_.badLink x.close.toNat))else false)then(!(at' s_.locked x.close.toNat))else false),true)]=true→(0:Int)≤x.open_∧x.open_<(s_.badLink.length:Int))∧(gB [((bif (bif (bif (bif (bif (!(at' s_.badBus x.watch.toNat))then(!(at' r_.1 x.watch.toNat))else false)then(!(at' s_.closed x.close.toNat))else false)then(!(at' s_.badLink x.close.toNat))else false)then(!(at' s_.locked x.close.toNat))else false)then(!(at' s_.badLink x.open_.toNat))else false),true)]=true→(0:Int)≤x.open_∧x.open_<(s_.locked.length:Int))) (
 (iG p (⟨((r_1.closed.set x.close.toNat true).set x.open_.toNat false),r_1.locked,r_1.badLink,r_1.on_,r_1.badSource,r_1.earthed,r_1.badBus⟩:State)).bind fun r_2=>
 bJ (gB [((bif (bif (bif (bif (bif (bif (!(at' s_.badBus x.watch.toNat))then(!(at' r_.1 x.watch.toNat))else false)then(!(at' s_.closed x.close.toNat))else false)then(!(at' s_.badLink x.close.toNat))else false)then(!(at' s_.locked x.close.toNat))else false)then(!(at' s_.badLink x.open_.toNat))else false)then(!(at' s_.locked x.open_.toNat))else false),true)]=true→(0:Int)≤x.watch∧x.watch<(r_2.1.length:Int)) (
 Option.bind (ay (kM p s_ r_ r_2) FUEL ((bif (bif (bif (bif (bif (bif (bif (!(at' s_.badBus x.watch.toNat))then(!(at' r_.1 x.watch.toNat))else false)then(!(at' s_.closed x.close.toNat))else false)then(!(at' s_.badLink x.close.toNat))else false)then(!(at' s_.locked x.close.toNat))else false)then(!(at' s_.badLink x.open_.toNat))else false)then(!(at' s_.locked x.open_.toNat))else false)then(at' r_2.1 x.watch.toNat)else false),0)) fun o=>match o with
 | .ret v=>some v
 | .brk can1=>
 (ig p s_).bind fun r_3=>
 (ig p (⟨((r_1.closed.set x.close.toNat true).set x.open_.toNat false),r_1.locked,r_1.badLink,r_1.on_,r_1.badSource,r_1.earthed,r_1.badBus⟩:State)).bind fun r_4=>
 Option.bind (ay (ko r_3 r_4) FUEL (can1,0)) fun o=>match o with
 | .ret v=>some v
 | .brk can3=>
 some ((⟨((r_1.closed.set x.close.toNat true).set x.open_.toNat false),r_1.locked,r_1.badLink,r_1.on_,r_1.badSource,r_1.earthed,r_1.badBus⟩:State),can3))))
 else
 (iG p (⟨(r_1.closed.set x.close.toNat true),r_1.locked,r_1.badLink,r_1.on_,r_1.badSource,r_1.earthed,r_1.badBus⟩:State)).bind fun r_5=>
 bJ (gB [((bif (bif (bif (bif (!(at' s_.badBus x.watch.toNat))then(!(at' r_.1 x.watch.toNat))else false)then(!(at' s_.closed x.close.toNat))else false)then(!(at' s_.badLink x.close.toNat))else false)then(!(at' s_.locked x.close.toNat))else false),true)]=true→(0:Int)≤x.watch∧x.watch<(r_5.1.length:Int)) (
 Option.bind (ay (yH p s_ r_ r_5) FUEL ((bif (bif (bif (bif (bif (!(at' s_.badBus x.watch.toNat))then(!(at' r_.1 x.watch.toNat))else false)then(!(at' s_.closed x.close.toNat))else false)then(!(at' s_.badLink x.close.toNat))else false)then(!(at' s_.locked x.close.toNat))else false)then(at' r_5.1 x.watch.toNat)else false),0)) fun o=>match o with
 | .ret v=>some v
 | .brk can5=>
 (ig p s_).bind fun r_6=>
 (ig p (⟨(r_1.closed.set x.close.toNat true),r_1.locked,r_1.badLink,r_1.on_,r_1.badSource,r_1.earthed,r_1.badBus⟩:State)).bind fun r_7=>
 Option.bind (ay (yQ r_6 r_7) FUEL (can5,0)) fun o=>match o with
 | .ret v=>some v
 | .brk can7=>
 some ((⟨(r_1.closed.set x.close.toNat true),r_1.locked,r_1.badLink,r_1.on_,r_1.badSource,r_1.earthed,r_1.badBus⟩:State),can7))))
def jB (order:(List Int)) (i:Int):(Bool × Int)→Option (aP (Bool × Int) (Ex Bool (aP Int (Ex ((List Bool) × (List Bool) × (List Bool) × (List Bool) × (List Bool) × (List Bool) × (List Bool) × (List Int)) (aP ((List Bool) × (List Bool) × (List Bool) × (List Bool) × (List Bool) × (List Bool) × (List Bool) × (List Int) × Int) (Ex ((List Bool) × (List Bool) × (List Bool) × (List Bool) × (List Bool) × (List Bool) × (List Bool) × (List Int)) (State × (List Int) × Int))))))):=
 fun zz=>match zz with
 |(done,kz)=>
 bif (decide (kz<(order.length:Int)))then
 bJ (gB [(done,false)]=true→(0:Int)≤kz∧kz<(order.length:Int)) (
 some (.next ((bif done then true else(decide ((at' order kz.toNat)=i))),(IntKind.wrap .i64 (kz+1)))))
 else
 some (.done (.brk done))
def mq (p:ah) (l:(List Transfer)) (now0:(List Bool)) (now1:(List Bool)) (now2:(List Bool)) (now3:(List Bool)) (now4:(List Bool)) (now5:(List Bool)) (now6:(List Bool)) (order:(List Int)):Int→Option (aP Int (Ex ((List Bool) × (List Bool) × (List Bool) × (List Bool) × (List Bool) × (List Bool) × (List Bool) × (List Int)) (aP ((List Bool) × (List Bool) × (List Bool) × (List Bool) × (List Bool) × (List Bool) × (List Bool) × (List Int) × Int) (Ex ((List Bool) × (List Bool) × (List Bool) × (List Bool) × (List Bool) × (List Bool) × (List Bool) × (List Int)) (State × (List Int) × Int))))):=
 fun i=>
 bif (decide (i<(l.length:Int)))then
 Option.bind (ay (jB order i) FUEL (false,0)) fun o=>match o with
 | .ret v=>some v
 | .brk done1=>
 (xZ p (⟨now0,now1,now2,now3,now4,now5,now6⟩:State) (at' l i.toNat)).bind fun r_2=>
 bJ ((0:Int)≤i∧i<(l.length:Int)) (
 bif (bif (!done1)then r_2.2 else false)then
 bJ (((order.length+[i].length)*8≤140737488355328)∧(order.length+[i].length≤4611686018427387904)) (
 some (.done (.brk (r_2.1.closed,r_2.1.locked,r_2.1.badLink,r_2.1.on_,r_2.1.badSource,r_2.1.earthed,r_2.1.badBus,(order++[i])))))
 else
 some (.next (IntKind.wrap .i64 (i+1))))
 else
 some (.done (.brk (now0,now1,now2,now3,now4,now5,now6,order)))
def gW (p:ah) (l:(List Transfer)):((List Bool) × (List Bool) × (List Bool) × (List Bool) × (List Bool) × (List Bool) × (List Bool) × (List Int) × Int)→Option (aP ((List Bool) × (List Bool) × (List Bool) × (List Bool) × (List Bool) × (List Bool) × (List Bool) × (List Int) × Int) (Ex ((List Bool) × (List Bool) × (List Bool) × (List Bool) × (List Bool) × (List Bool) × (List Bool) × (List Int)) (State × (List Int) × Int))):=
 fun zz=>match zz with
 |(now0,now1,now2,now3,now4,now5,now6,order,n)=>
 bif (decide (n<(l.length:Int)))then
 Option.bind (ay (mq p l now0 now1 now2 now3 now4 now5 now6 order) FUEL (0)) fun o=>match o with
 | .ret v=>some v
 | .brk (now02,now12,now22,now32,now42,now52,now62,order2)=>
 some (.next (now02,now12,now22,now32,now42,now52,now62,order2,(IntKind.wrap .i64 (n+1))))
 else
 some (.done (.brk (now0,now1,now2,now3,now4,now5,now6,order)))
def pE (p:ah) (s_:State) (l:(List Transfer)):Option (State × (List Int) × Int):=
 (fP p s_ l).bind fun r_=>
 bif (!decide (r_=0))then
 some ((⟨([]:List Bool),([]:List Bool),([]:List Bool),([]:List Bool),([]:List Bool),([]:List Bool),([]:List Bool)⟩:State),([]:List Int),r_)
 else
 (oG s_).bind fun r_1=>
 Option.bind (ay (gW p l) FUEL (r_1.closed,r_1.locked,r_1.badLink,r_1.on_,r_1.badSource,r_1.earthed,r_1.badBus,([]:List Int),0)) fun o=>match o with
 | .ret v=>some v
 | .brk (now01,now11,now21,now31,now41,now51,now61,order1)=>
 some ((⟨now01,now11,now21,now31,now41,now51,now61⟩:State),order1,0)
def pW (l:(List Bool)) (i:Int) (is:Bool):Option (List Bool):=
 bJ (((([]:List Bool).length+l.length)*1≤140737488355328)∧(([]:List Bool).length+l.length≤4611686018427387904)) (
 bJ ((0:Int)≤i∧i<((([]:List Bool)++l).length:Int)) (
 some ((([]:List Bool)++l).set i.toNat is)))
def pK (p:ah) (s_:State) (x:Part) (is:Bool):Option (State × Int):=
 (eH p s_).bind fun r_=>
 bif (!decide (r_=0))then
 some ((⟨([]:List Bool),([]:List Bool),([]:List Bool),([]:List Bool),([]:List Bool),([]:List Bool),([]:List Bool)⟩:State),r_)
 else
 bif (decide (x.index<0))then
 some ((⟨([]:List Bool),([]:List Bool),([]:List Bool),([]:List Bool),([]:List Bool),([]:List Bool),([]:List Bool)⟩:State),14)
 else
 bif (bif (decide (x.kind=1))then(decide (x.index<p.buses))else false)then
 (pW s_.badBus x.index is).bind fun r_1=>
 some ((⟨s_.closed,s_.locked,s_.badLink,s_.on_,s_.badSource,s_.earthed,r_1⟩:State),0)
 else
 bif (bif (decide (x.kind=2))then(decide (x.index<(p.sources.length:Int)))else false)then
 (pW s_.badSource x.index is).bind fun r_2=>
 some ((⟨s_.closed,s_.locked,s_.badLink,s_.on_,r_2,s_.earthed,s_.badBus⟩:State),0)
 else
 bif (bif (decide (x.kind=3))then(decide (x.index<(p.links.length:Int)))else false)then
 (pW s_.badLink x.index is).bind fun r_3=>
 some ((⟨s_.closed,s_.locked,r_3,s_.on_,s_.badSource,s_.earthed,s_.badBus⟩:State),0)
 else
 some ((⟨([]:List Bool),([]:List Bool),([]:List Bool),([]:List Bool),([]:List Bool),([]:List Bool),([]:List Bool)⟩:State),14)
def kK (p:ah) (parts:(List Part)):((List Bool) × (List Bool) × (List Bool) × (List Bool) × (List Bool) × (List Bool) × (List Bool) × Int)→Option (aP ((List Bool) × (List Bool) × (List Bool) × (List Bool) × (List Bool) × (List Bool) × (List Bool) × Int) (Ex ((List Bool) × (List Bool) × (List Bool) × (List Bool) × (List Bool) × (List Bool) × (List Bool)) (State × Int))):=
 fun zz=>match zz with
 |(now0,now1,now2,now3,now4,now5,now6,i)=>
 bif (decide (i<(parts.length:Int)))then
 (pK p (⟨now0,now1,now2,now3,now4,now5,now6⟩:State) (at' parts i.toNat) true).bind fun r_1=>
 bJ ((0:Int)≤i∧i<(parts.length:Int)) (
 bif (!decide (r_1.2=0))then
 some (.done (.ret ((⟨([]:List Bool),([]:List Bool),([]:List Bool),([]:List Bool),([]:List Bool),([]:List Bool),([]:List Bool)⟩:State),r_1.2)))
 else
 some (.next (r_1.1.closed,r_1.1.locked,r_1.1.badLink,r_1.1.on_,r_1.1.badSource,r_1.1.earthed,r_1.1.badBus,(IntKind.wrap .i64 (i+1)))))
 else
 some (.done (.brk (now0,now1,now2,now3,now4,now5,now6)))
def qM (p:ah) (s_:State) (l:(List Transfer)) (parts:(List Part)):Option (State × Int):=
 (fP p s_ l).bind fun r_=>
 bif (!decide (r_=0))then
 some ((⟨([]:List Bool),([]:List Bool),([]:List Bool),([]:List Bool),([]:List Bool),([]:List Bool),([]:List Bool)⟩:State),r_)
 else
 Option.bind (ay (kK p parts) FUEL (s_.closed,s_.locked,s_.badLink,s_.on_,s_.badSource,s_.earthed,s_.badBus,0)) fun o=>match o with
 | .ret v=>some v
 | .brk (now01,now11,now21,now31,now41,now51,now61)=>
 (pE p (⟨now01,now11,now21,now31,now41,now51,now61⟩:State) l).bind fun r_2=>
 some (r_2.1,0)
def lD (p:ah) (r_:(State × Int)):((List Int) × Int)→Option (aP ((List Int) × Int) (Ex (List Int) ((List Int) × Int))):=
 fun zz=>match zz with
 |(out,t29)=>
 bif (decide (t29<(p.racks.length:Int)))then
 bJ ((0:Int)≤t29∧t29<(p.racks.length:Int)) (
 (bif gB [((decide (0<((at' p.racks t29.toNat).paths))),true)]then jD p r_.1 t29 else some default).bind fun r_1=>
 bif (bif (decide (0<((at' p.racks t29.toNat).paths)))then(!r_1)else false)then
 bJ (((out.length+[t29].length)*8≤140737488355328)∧(out.length+[t29].length≤4611686018427387904)) (
 some (.next ((out++[t29]),(IntKind.wrap .i64 (t29+1)))))
 else
 some (.next (out,(IntKind.wrap .i64 (t29+1)))))
 else
 some (.done (.brk out))
def jK (p:ah) (s_:State) (l:(List Transfer)) (parts:(List Part)):Option ((List Int) × Int):=
 (lM p s_ l parts).bind fun r_=>
 bif (!decide (r_.2=0))then
 some (([]:List Int),r_.2)
 else
 Option.bind (ay (lD p r_) FUEL (([]:List Int),0)) fun o=>match o with
 | .ret v=>some v
 | .brk out1=>
 some (out1,0)
def ku (p:ah) (r_:((List Bool) × Int)):((List bA) × Int)→Option (aP ((List bA) × Int) (Ex (List bA) ((List bA) × Int))):=
 fun zz=>match zz with
 |(out,r_1)=>
 bif (decide (r_1<(p.racks.length:Int)))then
 bJ ((0:Int)≤r_1∧r_1<(p.racks.length:Int)) (
 bJ (((0:Int)≤((at' p.racks r_1.toNat).feeds).e0∧((at' p.racks r_1.toNat).feeds).e0<(r_.1.length:Int))∧(gB [((decide (0≤(((at' p.racks r_1.toNat).feeds).e1))),true)]=true→(0:Int)≤(if((at' p.racks r_1.toNat).feeds).e1<0 then 0 else((at' p.racks r_1.toNat).feeds).e1)∧(if((at' p.racks r_1.toNat).feeds).e1<0 then 0 else((at' p.racks r_1.toNat).feeds).e1)<(r_.1.length:Int))∧((out.length+[(⟨(at' r_.1 ((((at' p.racks r_1.toNat).feeds).e0).toNat)),(bif (decide (0≤(((at' p.racks r_1.toNat).feeds).e1)))then(at' r_.1 ((if((at' p.racks r_1.toNat).feeds).e1<0 then 0 else((at' p.racks r_1.toNat).feeds).e1).toNat))else false)⟩:bA)].length)*2≤140737488355328)∧(out.length+[(⟨(at' r_.1 ((((at' p.racks r_1.toNat).feeds).e0).toNat)),(bif (decide (0≤(((at' p.racks r_1.toNat).feeds).e1)))then(at' r_.1 ((if((at' p.racks r_1.toNat).feeds).e1<0 then 0 else((at' p.racks r_1.toNat).feeds).e1).toNat))else false)⟩:bA)].length≤4611686018427387904)) (
 some (.next ((out++[(⟨(at' r_.1 ((((at' p.racks r_1.toNat).feeds).e0).toNat)),(bif (decide (0≤(((at' p.racks r_1.toNat).feeds).e1)))then(at' r_.1 ((if((at' p.racks r_1.toNat).feeds).e1<0 then 0 else((at' p.racks r_1.toNat).feeds).e1).toNat))else false)⟩:bA)]),(IntKind.wrap .i64 (r_1+1))))))
 else
 some (.done (.brk out))
def yE (p:ah) (s_:State):Option ((List bA) × Int):=
 (iG p s_).bind fun r_=>
 bif (!decide (r_.2=0))then
 some (([]:List bA),r_.2)
 else
 Option.bind (ay (ku p r_) FUEL (([]:List bA),0)) fun o=>match o with
 | .ret v=>some v
 | .brk out1=>
 some (out1,0)
def qX (p:ah) (s_:State) (rack:Int):Option Bool:=
 (yE p s_).bind fun r_=>
 bJ (((0:Int)≤rack∧rack<(r_.1.length:Int))∧(gB [((at' r_.1 rack.toNat).e0,false)]=true→(0:Int)≤rack∧rack<(r_.1.length:Int))) (
 some (bif (at' r_.1 rack.toNat).e0 then true else(at' r_.1 rack.toNat).e1))
def lH (p:ah) (r_:(State × Int)):((List Int) × Int)→Option (aP ((List Int) × Int) (Ex (List Int) ((List Int) × Int))):=
 fun zz=>match zz with
 |(out,r_1)=>
 bif (decide (r_1<(p.racks.length:Int)))then
 (bif gB [((decide (1≤((at' p.racks r_1.toNat).paths))),true)]then qX p r_.1 r_1 else some default).bind fun r_2=>
 bJ ((0:Int)≤r_1∧r_1<(p.racks.length:Int)) (
 bif (bif (decide (1≤((at' p.racks r_1.toNat).paths)))then(!r_2)else false)then
 bJ (((out.length+[r_1].length)*8≤140737488355328)∧(out.length+[r_1].length≤4611686018427387904)) (
 some (.next ((out++[r_1]),(IntKind.wrap .i64 (r_1+1)))))
 else
 some (.next (out,(IntKind.wrap .i64 (r_1+1)))))
 else
 some (.done (.brk out))
def BP (p:ah) (s_:State) (l:(List Transfer)) (parts:(List Part)):Option ((List Int) × Int):=
 (qM p s_ l parts).bind fun r_=>
 bif (!decide (r_.2=0))then
 some (([]:List Int),r_.2)
 else
 Option.bind (ay (lH p r_) FUEL (([]:List Int),0)) fun o=>match o with
 | .ret v=>some v
 | .brk out1=>
 some (out1,0)
def iT (p:ah) (s_:State) (l:(List Transfer)) (t26:Int) (r_2:(List Part)):((List aO) × Int)→Option (aP ((List aO) × Int) (Ex (List aO) (aP ((List aO) × Int) (Ex (List aO) ((List aO) × Int))))):=
 fun zz=>match zz with
 |(out2,t53)=>
 bif (decide (t53<(r_2.length:Int)))then
 bJ ((0:Int)≤t53∧t53<(r_2.length:Int)) (
 (lM p s_ l [(at' r_2 t53.toNat)]).bind fun r_3=>
 (jD p r_3.1 t26).bind fun r_4=>
 bif (!r_4)then
 bJ (((out2.length+[(⟨t26,(at' r_2 t53.toNat)⟩:aO)].length)*24≤140737488355328)∧(out2.length+[(⟨t26,(at' r_2 t53.toNat)⟩:aO)].length≤4611686018427387904)) (
 some (.next ((out2++[(⟨t26,(at' r_2 t53.toNat)⟩:aO)]),(IntKind.wrap .i64 (t53+1)))))
 else
 some (.next (out2,(IntKind.wrap .i64 (t53+1)))))
 else
 some (.done (.brk out2))
def gu (p:ah) (s_:State) (l:(List Transfer)):((List aO) × Int)→Option (aP ((List aO) × Int) (Ex (List aO) ((List aO) × Int))):=
 fun zz=>match zz with
 |(out,t26)=>
 bif (decide (t26<(p.racks.length:Int)))then
 bJ ((0:Int)≤t26∧t26<(p.racks.length:Int)) (
 (bif gB [((decide (0<((at' p.racks t26.toNat).paths))),true)]then jD p s_ t26 else some default).bind fun r_1=>
 bif (bif (decide (0<((at' p.racks t26.toNat).paths)))then(!r_1)else false)then
 bJ (((out.length+[(⟨t26,(⟨0,0⟩:Part)⟩:aO)].length)*24≤140737488355328)∧(out.length+[(⟨t26,(⟨0,0⟩:Part)⟩:aO)].length≤4611686018427387904)) (
 some (.next ((out++[(⟨t26,(⟨0,0⟩:Part)⟩:aO)]),(IntKind.wrap .i64 (t26+1)))))
 else
 bif (decide (((at' p.racks t26.toNat).paths)<2))then
 some (.next (out,(IntKind.wrap .i64 (t26+1))))
 else
 (iO p s_).bind fun r_2=>
 Option.bind (ay (iT p s_ l t26 r_2) FUEL (out,0)) fun o=>match o with
 | .ret v=>some v
 | .brk out3=>
 some (.next (out3,(IntKind.wrap .i64 (t26+1)))))
 else
 some (.done (.brk out))
def lF (p:ah) (s_:State) (l:(List Transfer)):Option ((List aO) × Int):=
 (dD p s_ l).bind fun r_=>
 bif (!decide (r_=0))then
 some (([]:List aO),r_)
 else
 Option.bind (ay (gu p s_ l) FUEL (([]:List aO),0)) fun o=>match o with
 | .ret v=>some v
 | .brk out1=>
 some (out1,0)
def iP (p:ah):((List Part) × Int)→Option (aP ((List Part) × Int) (Ex (List Part) ((List Part) × Int))):=
 fun zz=>match zz with
 |(out,i)=>
 bif (decide (i<p.buses))then
 bJ (((out.length+[(⟨1,i⟩:Part)].length)*16≤140737488355328)∧(out.length+[(⟨1,i⟩:Part)].length≤4611686018427387904)) (
 some (.next ((out++[(⟨1,i⟩:Part)]),(IntKind.wrap .i64 (i+1)))))
 else
 some (.done (.brk out))
def kE (p:ah):((List Part) × Int)→Option (aP ((List Part) × Int) (Ex (List Part) ((List Part) × Int))):=
 fun zz=>match zz with
 |(out2,i1)=>
 bif (decide (i1<(p.sources.length:Int)))then
 bJ (((out2.length+[(⟨2,i1⟩:Part)].length)*16≤140737488355328)∧(out2.length+[(⟨2,i1⟩:Part)].length≤4611686018427387904)) (
 some (.next ((out2++[(⟨2,i1⟩:Part)]),(IntKind.wrap .i64 (i1+1)))))
 else
 some (.done (.brk out2))
def kN (p:ah):((List Part) × Int)→Option (aP ((List Part) × Int) (Ex (List Part) ((List Part) × Int))):=
 fun zz=>match zz with
 |(out4,i2)=>
 bif (decide (i2<(p.links.length:Int)))then
 bJ (((out4.length+[(⟨3,i2⟩:Part)].length)*16≤140737488355328)∧(out4.length+[(⟨3,i2⟩:Part)].length≤4611686018427387904)) (
 some (.next ((out4++[(⟨3,i2⟩:Part)]),(IntKind.wrap .i64 (i2+1)))))
 else
 some (.done (.brk out4))
def qG (p:ah):Option ((List Part) × Int):=
 (qK p).bind fun r_=>
 bif (!decide (r_=0))then
 some (([]:List Part),r_)
 else
 Option.bind (ay (iP p) FUEL (([]:List Part),0)) fun o=>match o with
 | .ret v=>some v
 | .brk out1=>
 Option.bind (ay (kE p) FUEL (out1,0)) fun o=>match o with
 | .ret v=>some v
 | .brk out3=>
 Option.bind (ay (kN p) FUEL (out3,0)) fun o=>match o with
 | .ret v=>some v
 | .brk out5=>
 some (out5,0)
def nQ (s_:State) (r_:((List Part) × Int)):((List Part) × Int)→Option (aP ((List Part) × Int) (Ex (List Part) (List Part))):=
 fun zz=>match zz with
 |(out,i)=>
 bif (decide (i<(r_.1.length:Int)))then
 bJ ((0:Int)≤i∧i<(r_.1.length:Int)) (
 bJ ((gB [((decide (((at' r_.1 i.toNat).kind)=1)),true)]=true→(0:Int)≤(at' r_.1 i.toNat).index∧(at' r_.1 i.toNat).index<(s_.badBus.length:Int))∧(gB [((decide (((at' r_.1 i.toNat).kind)=2)),true),((bif (decide (((at' r_.1 i.toNat).kind)=1))then(!(at' s_.badBus (((at' r_.1 i.toNat).index).toNat)))else false),false)]=true→(0:Int)≤(at' r_.1 i.toNat).index∧(at' r_.1 i.toNat).index<(s_.badSource.length:Int))∧(gB [((decide (((at' r_.1 i.toNat).kind)=3)),true),((bif (bif (decide (((at' r_.1 i.toNat).kind)=1))then(!(at' s_.badBus (((at' r_.1 i.toNat).index).toNat)))else false)then true else(bif (decide (((at' r_.1 i.toNat).kind)=2))then(!(at' s_.badSource (((at' r_.1 i.toNat).index).toNat)))else false)),false)]=true→(0:Int)≤(at' r_.1 i.toNat).index∧(at' r_.1 i.toNat).index<(s_.badLink.length:Int))) (
 bif (bif (bif (bif (decide (((at' r_.1 i.toNat).kind)=1))then(!(at' s_.badBus (((at' r_.1 i.toNat).index).toNat)))else false)then true else(bif (decide (((at' r_.1 i.toNat).kind)=2))then(!(at' s_.badSource (((at' r_.1 i.toNat).index).toNat)))else false))then true else(bif (decide (((at' r_.1 i.toNat).kind)=3))then(!(at' s_.badLink (((at' r_.1 i.toNat).index).toNat)))else false))then
 bJ (((out.length+[(at' r_.1 i.toNat)].length)*16≤140737488355328)∧(out.length+[(at' r_.1 i.toNat)].length≤4611686018427387904)) (
 some (.next ((out++[(at' r_.1 i.toNat)]),(IntKind.wrap .i64 (i+1)))))
 else
 some (.next (out,(IntKind.wrap .i64 (i+1))))))
 else
 some (.done (.brk out))
def vF (p:ah) (s_:State):Option (List Part):=
 (qG p).bind fun r_=>
 Option.bind (ay (nQ s_ r_) FUEL (([]:List Part),0)) fun o=>match o with
 | .ret v=>some v
 | .brk out1=>
 some out1
def eF (p:ah) (s_:State) (l:(List Transfer)) (r_1:(List Part)) (r_2:Int):((List aO) × Int)→Option (aP ((List aO) × Int) (Ex (List aO) (aP ((List aO) × Int) (Ex (List aO) ((List aO) × Int))))):=
 fun zz=>match zz with
 |(out2,i)=>
 bif (bif (decide (i<(r_1.length:Int)))then(decide (((at' p.racks r_2.toNat).paths)=2))else false)then
 (qM p s_ l [(at' r_1 i.toNat)]).bind fun r_4=>
 bJ ((0:Int)≤i∧i<(r_1.length:Int)) (
 (qX p r_4.1 r_2).bind fun r_5=>
 bif (!r_5)then
 bJ (((0:Int)≤i∧i<(r_1.length:Int))∧((out2.length+[(⟨r_2,(at' r_1 i.toNat)⟩:aO)].length)*24≤140737488355328)∧(out2.length+[(⟨r_2,(at' r_1 i.toNat)⟩:aO)].length≤4611686018427387904)) (
 some (.next ((out2++[(⟨r_2,(at' r_1 i.toNat)⟩:aO)]),(IntKind.wrap .i64 (i+1)))))
 else
 some (.next (out2,(IntKind.wrap .i64 (i+1)))))
 else
 some (.done (.brk out2))
def gy (p:ah) (s_:State) (l:(List Transfer)) (r_1:(List Part)):((List aO) × Int)→Option (aP ((List aO) × Int) (Ex (List aO) ((List aO) × Int))):=
 fun zz=>match zz with
 |(out,r_2)=>
 bif (decide (r_2<(p.racks.length:Int)))then
 bJ ((0:Int)≤r_2∧r_2<(p.racks.length:Int)) (
 (bif gB [((decide (1≤((at' p.racks r_2.toNat).paths))),true)]then qX p s_ r_2 else some default).bind fun r_3=>
 bif (bif (decide (1≤((at' p.racks r_2.toNat).paths)))then(!r_3)else false)then
 bJ (((out.length+[(⟨r_2,(⟨0,0⟩:Part)⟩:aO)].length)*24≤140737488355328)∧(out.length+[(⟨r_2,(⟨0,0⟩:Part)⟩:aO)].length≤4611686018427387904)) (
 some (.next ((out++[(⟨r_2,(⟨0,0⟩:Part)⟩:aO)]),(IntKind.wrap .i64 (r_2+1)))))
 else
 Option.bind (ay (eF p s_ l r_1 r_2) FUEL (out,0)) fun o=>match o with
 | .ret v=>some v
 | .brk out3=>
 some (.next (out3,(IntKind.wrap .i64 (r_2+1)))))
 else
 some (.done (.brk out))
def xI (p:ah) (s_:State) (l:(List Transfer)):Option ((List aO) × Int):=
 (fP p s_ l).bind fun r_=>
 bif (!decide (r_=0))then
 some (([]:List aO),r_)
 else
 (vF p s_).bind fun r_1=>
 Option.bind (ay (gy p s_ l r_1) FUEL (([]:List aO),0)) fun o=>match o with
 | .ret v=>some v
 | .brk out1=>
 some (out1,0)
def kH (l:(List Part)) (t10:Int):((List (List Part)) × Int)→Option (aP ((List (List Part)) × Int) (Ex (List (List Part)) (aP ((List (List Part)) × Int) (Ex (List (List Part)) (List (List Part)))))):=
 fun zz=>match zz with
 |(out2,t20)=>
 bif (decide (t20<(((l.length - ((IntKind.wrap .i64 (t10+1)).toNat)):Nat):Int)))then
 bJ ((0:Int)≤t20∧t20<((l.drop ((IntKind.wrap .i64 (t10+1)).toNat)).length:Int)) (
 bJ (((out2.length+[[(at' l t10.toNat),(at' (l.drop ((IntKind.wrap .i64 (t10+1)).toNat)) t20.toNat)]].length)*24≤140737488355328)∧(out2.length+[[(at' l t10.toNat),(at' (l.drop ((IntKind.wrap .i64 (t10+1)).toNat)) t20.toNat)]].length≤4611686018427387904)) (
 some (.next ((out2++[[(at' l t10.toNat),(at' (l.drop ((IntKind.wrap .i64 (t10+1)).toNat)) t20.toNat)]]),(IntKind.wrap .i64 (t20+1))))))
 else
 some (.done (.brk out2))
def kg (l:(List Part)):((List (List Part)) × Int)→Option (aP ((List (List Part)) × Int) (Ex (List (List Part)) (List (List Part)))):=
 fun zz=>match zz with
 |(out,t10)=>
 bif (decide (t10<(l.length:Int)))then
 bJ ((0:Int)≤t10∧t10<(l.length:Int)) (
 bJ ((0:Int)≤(IntKind.wrap .i64 (t10+1))∧(IntKind.wrap .i64 (t10+1))≤(l.length:Int)) (
 Option.bind (ay (kH l t10) FUEL (out,0)) fun o=>match o with
 | .ret v=>some v
 | .brk out3=>
 some (.next (out3,(IntKind.wrap .i64 (t10+1))))))
 else
 some (.done (.brk out))
def qI (l:(List Part)):Option (List (List Part)):=
 Option.bind (ay (kg l) FUEL (([]:List (List Part)),0)) fun o=>match o with
 | .ret v=>some v
 | .brk out1=>
 some out1
def kJ (x:(List Part)) (x1:Int) (x11:(List Source)) (x12:(List Link)) (x13:(List aS)) (x2:(List Bool)) (x21:(List Bool)) (x22:(List Bool)) (x23:(List Bool)) (x24:(List Bool)) (x25:(List Bool)) (x26:(List Bool)) (x3:(List Transfer)):Option Bool:=
 (jK (⟨x1,x11,x12,x13⟩:ah) (⟨x2,x21,x22,x23,x24,x25,x26⟩:State) x3 x).bind fun r_=>
 some (decide (0<(r_.1.length:Int)))
def lC (p:ah) (s_:State) (l:(List Transfer)) (r_1:(List Part)):((List (List Part)) × (List Part) × Int)→Option (aP ((List (List Part)) × (List Part) × Int) (Ex ((List (List Part)) × (List Part)) ((List (List Part)) × Int))):=
 fun zz=>match zz with
 |(out,others,t30)=>
 bif (decide (t30<(r_1.length:Int)))then
 bJ ((0:Int)≤t30∧t30<(r_1.length:Int)) (
 (kJ [(at' r_1 t30.toNat)] p.buses p.sources p.links p.racks s_.closed s_.locked s_.badLink s_.on_ s_.badSource s_.earthed s_.badBus l).bind fun r_2=>
 bif r_2 then
 bJ (((out.length+[[(at' r_1 t30.toNat)]].length)*24≤140737488355328)∧(out.length+[[(at' r_1 t30.toNat)]].length≤4611686018427387904)) (
 some (.next ((out++[[(at' r_1 t30.toNat)]]),others,(IntKind.wrap .i64 (t30+1)))))
 else
 bJ (((others.length+[(at' r_1 t30.toNat)].length)*16≤140737488355328)∧(others.length+[(at' r_1 t30.toNat)].length≤4611686018427387904)) (
 some (.next (out,(others++[(at' r_1 t30.toNat)]),(IntKind.wrap .i64 (t30+1))))))
 else
 some (.done (.brk (out,others)))
def oD (p:ah) (s_:State) (l:(List Transfer)) (r_3:(List (List Part))):((List (List Part)) × Int)→Option (aP ((List (List Part)) × Int) (Ex (List (List Part)) ((List (List Part)) × Int))):=
 fun zz=>match zz with
 |(out2,t52)=>
 bif (decide (t52<(r_3.length:Int)))then
 bJ ((0:Int)≤t52∧t52<(r_3.length:Int)) (
 (kJ (at' r_3 t52.toNat) p.buses p.sources p.links p.racks s_.closed s_.locked s_.badLink s_.on_ s_.badSource s_.earthed s_.badBus l).bind fun r_4=>
 bif r_4 then
 bJ (((out2.length+[(at' r_3 t52.toNat)].length)*24≤140737488355328)∧(out2.length+[(at' r_3 t52.toNat)].length≤4611686018427387904)) (
 some (.next ((out2++[(at' r_3 t52.toNat)]),(IntKind.wrap .i64 (t52+1)))))
 else
 some (.next (out2,(IntKind.wrap .i64 (t52+1)))))
 else
 some (.done (.brk out2))
def p9 (p:ah) (s_:State) (l:(List Transfer)) (both:Bool):Option ((List (List Part)) × Int):=
 (dD p s_ l).bind fun r_=>
 bif (!decide (r_=0))then
 some (([]:List (List Part)),r_)
 else
 (iO p s_).bind fun r_1=>
 Option.bind (ay (lC p s_ l r_1) FUEL (([]:List (List Part)),([]:List Part),0)) fun o=>match o with
 | .ret v=>some v
 | .brk (out1,others1)=>
 bif both then
 (qI others1).bind fun r_3=>
 Option.bind (ay (oD p s_ l r_3) FUEL (out1,0)) fun o=>match o with
 | .ret v=>some v
 | .brk out3=>
 some (out3,0)
 else
 some (out1,0)
def wY (r_3:((List aO) × Int)) (i:Int) (r_5:((List Part) × Int)):(Bool × Int)→Option (aP (Bool × Int) (Ex Bool (aP Int (Ex Unit Bool)))):=
 fun zz=>match zz with
 |(there,kz)=>
 bif (decide (kz<(r_5.1.length:Int)))then
 bJ ((gB [(there,false)]=true→(0:Int)≤kz∧kz<(r_5.1.length:Int))∧(gB [(there,false)]=true→(0:Int)≤i∧i<(r_3.1.length:Int))) (
 some (.next ((bif there then true else((decide (((at' r_5.1 kz.toNat).kind)=(((at' r_3.1 i.toNat).part).kind))) && ((decide (((at' r_5.1 kz.toNat).index)=(((at' r_3.1 i.toNat).part).index))) && true))),(IntKind.wrap .i64 (kz+1)))))
 else
 some (.done (.brk there))
def oW (p:ah) (s_:State) (r_3:((List aO) × Int)):Int→Option (aP Int (Ex Unit Bool)):=
 fun i=>
 bif (decide (i<(r_3.1.length:Int)))then
 bJ (((0:Int)≤i∧i<(r_3.1.length:Int))∧(gB [((decide (((at' r_3.1 i.toNat).rack)<0)),false)]=true→(0:Int)≤i∧i<(r_3.1.length:Int))∧(gB [((bif (decide (((at' r_3.1 i.toNat).rack)<0))then true else(decide ((p.racks.length:Int)≤((at' r_3.1 i.toNat).rack)))),false)]=true→(0:Int)≤i∧i<(r_3.1.length:Int))∧(gB [((bif (decide (((at' r_3.1 i.toNat).rack)<0))then true else(decide ((p.racks.length:Int)≤((at' r_3.1 i.toNat).rack)))),false)]=true→(0:Int)≤(at' r_3.1 i.toNat).rack∧(at' r_3.1 i.toNat).rack<(p.racks.length:Int))) (
 bif (bif (bif (decide (((at' r_3.1 i.toNat).rack)<0))then true else(decide ((p.racks.length:Int)≤((at' r_3.1 i.toNat).rack))))then true else(decide (((at' p.racks (((at' r_3.1 i.toNat).rack).toNat)).paths)<1)))then
 some (.done (.ret false))
 else
 (fZ p s_ ((at' r_3.1 i.toNat).rack)).bind fun r_4=>
 bJ ((0:Int)≤i∧i<(r_3.1.length:Int)) (
 (dW p s_ ((at' r_3.1 i.toNat).rack)).bind fun r_5=>
 bJ ((0:Int)≤i∧i<(r_3.1.length:Int)) (
 bJ (gB [((bif (bif (!decide (r_4.2=0))then true else(!decide (r_5.2=0)))then true else(decide (r_4.1=2))),false)]=true→(0:Int)≤i∧i<(r_3.1.length:Int)) (
 bif (bif (bif (bif (!decide (r_4.2=0))then true else(!decide (r_5.2=0)))then true else(decide (r_4.1=2)))then true else(!((decide ((((at' r_3.1 i.toNat).part).kind)=0))==(decide (r_4.1=0)))))then
 some (.done (.ret false))
 else
 Option.bind (ay (wY r_3 i r_5) FUEL ((decide (r_4.1=0)),0)) fun o=>match o with
 | .ret v=>some v
 | .brk there1=>
 bif (!there1)then
 some (.done (.ret false))
 else
 some (.next (IntKind.wrap .i64 (i+1)))))))
 else
 some (.done (.brk ()))
def pQ (p:ah) (s_:State) (r_2:(List Transfer)) (r_6:((List (List Part)) × Int)):Int→Option (aP Int (Ex Unit Bool)):=
 fun i1=>
 bif (decide (i1<(r_6.1.length:Int)))then
 (jK p s_ (ve r_2 0 6) (at' r_6.1 i1.toNat)).bind fun r_7=>
 bJ ((0:Int)≤i1∧i1<(r_6.1.length:Int)) (
 bJ (gB [((!decide (r_7.2=0)),false)]=true→(0:Int)≤i1∧i1<(r_6.1.length:Int)) (
 bif (bif (bif (!decide (r_7.2=0))then true else(!decide (((at' r_6.1 i1.toNat).length:Int)=1)))then true else(decide ((r_7.1.length:Int)=0)))then
 some (.done (.ret false))
 else
 some (.next (IntKind.wrap .i64 (i1+1)))))
 else
 some (.done (.brk ()))
def fE (r_9:((List aO) × Int)) (i2:Int) (r_11:((List Part) × Int)):(Bool × Int)→Option (aP (Bool × Int) (Ex Bool (aP Int (Ex Unit Bool)))):=
 fun zz=>match zz with
 |(there2,kz1)=>
 bif (decide (kz1<(r_11.1.length:Int)))then
 bJ ((gB [(there2,false)]=true→(0:Int)≤kz1∧kz1<(r_11.1.length:Int))∧(gB [(there2,false)]=true→(0:Int)≤i2∧i2<(r_9.1.length:Int))) (
 some (.next ((bif there2 then true else((decide (((at' r_11.1 kz1.toNat).kind)=(((at' r_9.1 i2.toNat).part).kind))) && ((decide (((at' r_11.1 kz1.toNat).index)=(((at' r_9.1 i2.toNat).part).index))) && true))),(IntKind.wrap .i64 (kz1+1)))))
 else
 some (.done (.brk there2))
def fo (p:ah) (s_:State) (r_9:((List aO) × Int)):Int→Option (aP Int (Ex Unit Bool)):=
 fun i2=>
 bif (decide (i2<(r_9.1.length:Int)))then
 bJ (((0:Int)≤i2∧i2<(r_9.1.length:Int))∧(gB [((decide (((at' r_9.1 i2.toNat).rack)<0)),false)]=true→(0:Int)≤i2∧i2<(r_9.1.length:Int))∧(gB [((bif (decide (((at' r_9.1 i2.toNat).rack)<0))then true else(decide ((p.racks.length:Int)≤((at' r_9.1 i2.toNat).rack)))),false)]=true→(0:Int)≤i2∧i2<(r_9.1.length:Int))∧(gB [((bif (decide (((at' r_9.1 i2.toNat).rack)<0))then true else(decide ((p.racks.length:Int)≤((at' r_9.1 i2.toNat).rack)))),false)]=true→(0:Int)≤(at' r_9.1 i2.toNat).rack∧(at' r_9.1 i2.toNat).rack<(p.racks.length:Int))) (
 bif (bif (bif (decide (((at' r_9.1 i2.toNat).rack)<0))then true else(decide ((p.racks.length:Int)≤((at' r_9.1 i2.toNat).rack))))then true else(decide (((at' p.racks (((at' r_9.1 i2.toNat).rack).toNat)).paths)<1)))then
 some (.done (.ret false))
 else
 (fZ p s_ ((at' r_9.1 i2.toNat).rack)).bind fun r_10=>
 bJ ((0:Int)≤i2∧i2<(r_9.1.length:Int)) (
 (dW p s_ ((at' r_9.1 i2.toNat).rack)).bind fun r_11=>
 bJ ((0:Int)≤i2∧i2<(r_9.1.length:Int)) (
 bJ (gB [((bif (bif (!decide (r_10.2=0))then true else(!decide (r_11.2=0)))then true else(decide (r_10.1=2))),false)]=true→(0:Int)≤i2∧i2<(r_9.1.length:Int)) (
 bif (bif (bif (bif (!decide (r_10.2=0))then true else(!decide (r_11.2=0)))then true else(decide (r_10.1=2)))then true else(!((decide ((((at' r_9.1 i2.toNat).part).kind)=0))==(decide (r_10.1=0)))))then
 some (.done (.ret false))
 else
 Option.bind (ay (fE r_9 i2 r_11) FUEL ((decide (r_10.1=0)),0)) fun o=>match o with
 | .ret v=>some v
 | .brk there3=>
 bif (!there3)then
 some (.done (.ret false))
 else
 some (.next (IntKind.wrap .i64 (i2+1)))))))
 else
 some (.done (.brk ()))
def fB (p:ah) (s_:State) (r_2:(List Transfer)) (r_12:((List (List Part)) × Int)):Int→Option (aP Int (Ex Unit Bool)):=
 fun i3=>
 bif (decide (i3<(r_12.1.length:Int)))then
 (jK p s_ r_2 (at' r_12.1 i3.toNat)).bind fun r_13=>
 bJ ((0:Int)≤i3∧i3<(r_12.1.length:Int)) (
 bJ (gB [((!decide (r_13.2=0)),false)]=true→(0:Int)≤i3∧i3<(r_12.1.length:Int)) (
 bif (bif (bif (!decide (r_13.2=0))then true else(!decide (((at' r_12.1 i3.toNat).length:Int)=1)))then true else(decide ((r_13.1.length:Int)=0)))then
 some (.done (.ret false))
 else
 some (.next (IntKind.wrap .i64 (i3+1)))))
 else
 some (.done (.brk ()))
def jY (p:ah) (s_:State) (l:(List Transfer)):Option Bool:=
 (bif gB [((bif (bif (bif (bif (decide (60<(p.sources.length:Int)))then true else(decide (20<(p.links.length:Int))))then true else(decide (60<(p.racks.length:Int))))then true else(decide (12<p.buses)))then true else(decide (60<(l.length:Int)))),false)]then cK p s_ else some default).bind fun r_=>
 bif (bif (bif (bif (bif (bif (decide (60<(p.sources.length:Int)))then true else(decide (20<(p.links.length:Int))))then true else(decide (60<(p.racks.length:Int))))then true else(decide (12<p.buses)))then true else(decide (60<(l.length:Int))))then true else(!decide (r_=0)))then
 (oo).bind fun r_1=>
 some r_1
 else
 (qF p s_ l).bind fun r_2=>
 bif (decide (6<(r_2.length:Int)))then
 bJ ((0:Int)≤(6:Int)∧(6:Int)≤(r_2.length:Int)) (
 (lF p s_ (ve r_2 0 6)).bind fun r_3=>
 bif (!decide (r_3.2=0))then
 some false
 else
 Option.bind (ay (oW p s_ r_3) FUEL (0)) fun o=>match o with
 | .ret v=>some v
 | .brk _=>
 (p9 p s_ (ve r_2 0 6) false).bind fun r_6=>
 bif (!decide (r_6.2=0))then
 some false
 else
 Option.bind (ay (pQ p s_ r_2 r_6) FUEL (0)) fun o=>match o with
 | .ret v=>some v
 | .brk _=>
 (oo).bind fun r_8=>
 some r_8)
 else
 (lF p s_ r_2).bind fun r_9=>
 bif (!decide (r_9.2=0))then
 some false
 else
 Option.bind (ay (fo p s_ r_9) FUEL (0)) fun o=>match o with
 | .ret v=>some v
 | .brk _=>
 (p9 p s_ r_2 false).bind fun r_12=>
 bif (!decide (r_12.2=0))then
 some false
 else
 Option.bind (ay (fB p s_ r_2 r_12) FUEL (0)) fun o=>match o with
 | .ret v=>some v
 | .brk _=>
 (oo).bind fun r_14=>
 some r_14
end Sg
