import Derived.Test.YtklofnlffikpgaaGreatSeLd
set_option linter.all false
namespace Sg
open Go
structure Source where
 bus:Int
 kind:Int
 power:Int
 sync:Int
 ohm:Int
instance:Inhabited Source:=⟨⟨default,default,default,default,default⟩⟩
def Source.cell (x:Source):Nat→DV
 |0=>(.int .i64 x.bus)
 |1=>(.int .i64 x.kind)
 |2=>(.int .i64 x.power)
 |3=>(.int .i64 x.sync)
 |4=>(.int .i64 x.ohm)
 |_=> .nilp
structure tY where
 amps:Int
 millis:Int
instance:Inhabited tY:=⟨⟨default,default⟩⟩
def tY.cell (x:tY):Nat→DV
 |0=>(.int .i64 x.amps)
 |1=>(.int .i64 x.millis)
 |_=> .nilp
structure Link where
 a:Int
 b:Int
 kind:Int
 most:Int
 ohm:Int
 trip:(List tY)
instance:Inhabited Link:=⟨⟨default,default,default,default,default,default⟩⟩
def Link.cell (x:Link):Nat→DV
 |0=>(.int .i64 x.a)
 |1=>(.int .i64 x.b)
 |2=>(.int .i64 x.kind)
 |3=>(.int .i64 x.most)
 |4=>(.int .i64 x.ohm)
 |5=>(aR none 2 tY.cell x.trip)
 |_=> .nilp
structure ah where
 e0:Int
 e1:Int
instance:Inhabited ah:=⟨⟨default,default⟩⟩
def ah.cell (x:ah):Nat→DV
 |0=>(.int .i64 x.e0)
 |1=>(.int .i64 x.e1)
 |_=> .nilp
structure aP where
 feeds:ah
 power:Int
 paths:Int
instance:Inhabited aP:=⟨⟨default,default,default⟩⟩
def aP.cell (x:aP):Nat→DV
 |0=>(.int .i64 x.feeds.e0)
 |1=>(.int .i64 x.feeds.e1)
 |2=>(.int .i64 x.power)
 |3=>(.int .i64 x.paths)
 |_=> .nilp
structure ai where
 buses:Int
 sources:(List Source)
 links:(List Link)
 racks:(List aP)
instance:Inhabited ai:=⟨⟨default,default,default,default⟩⟩
def ai.cell (x:ai):Nat→DV
 |0=>(.int .i64 x.buses)
 |1=>(aR none 5 Source.cell x.sources)
 |2=>(aR none 6 Link.cell x.links)
 |3=>(aR none 4 aP.cell x.racks)
 |_=> .nilp
structure State where
 closed:(List Bool)
 locked:(List Bool)
 badLink:(List Bool)
 on_:(List Bool)
 badSource:(List Bool)
 earthed:(List Bool)
 badBus:(List Bool)
instance:Inhabited State:=⟨⟨default,default,default,default,default,default,default⟩⟩
def State.cell (x:State):Nat→DV
 |0=>(aR none 1 af x.closed)
 |1=>(aR none 1 af x.locked)
 |2=>(aR none 1 af x.badLink)
 |3=>(aR none 1 af x.on_)
 |4=>(aR none 1 af x.badSource)
 |5=>(aR none 1 af x.earthed)
 |6=>(aR none 1 af x.badBus)
 |_=> .nilp
structure bU where
 l:(List Bool)
 n:Int
instance:Inhabited bU:=⟨⟨default,default⟩⟩
def bU.cell (x:bU):Nat→DV
 |0=>(aR none 1 af x.l)
 |1=>(.int .i64 x.n)
 |_=> .nilp
structure Transfer where
 watch:Int
 open_:Int
 close:Int
instance:Inhabited Transfer:=⟨⟨default,default,default⟩⟩
def Transfer.cell (x:Transfer):Nat→DV
 |0=>(.int .i64 x.watch)
 |1=>(.int .i64 x.open_)
 |2=>(.int .i64 x.close)
 |_=> .nilp
structure aY where
 head:(List (Int × Int))
instance:Inhabited aY:=⟨⟨default⟩⟩
def aY.cell (x:aY):Nat→DV
 |0=> .nilp
 |_=> .nilp
structure aG where
 buses:(List Int)
 sources:(List Int)
instance:Inhabited aG:=⟨⟨default,default⟩⟩
def aG.cell (x:aG):Nat→DV
 |0=>(aR none 1 (aF .i64) x.buses)
 |1=>(aR none 1 (aF .i64) x.sources)
 |_=> .nilp
structure Part where
 kind:Int
 index:Int
instance:Inhabited Part:=⟨⟨default,default⟩⟩
def Part.cell (x:Part):Nat→DV
 |0=>(.int .i64 x.kind)
 |1=>(.int .i64 x.index)
 |_=> .nilp
structure aB where
 e0:(List (Int × (List Int)))
 e1:(List (Int × (List Int)))
instance:Inhabited aB:=⟨⟨default,default⟩⟩
def aB.cell (x:aB):Nat→DV
 |0=> .nilp
 |1=> .nilp
 |_=> .nilp
structure Graph where
 parts:(List Part)
 arcs:aB
instance:Inhabited Graph:=⟨⟨default,default⟩⟩
def Graph.cell (x:Graph):Nat→DV
 |0=>(aR none 2 Part.cell x.parts)
 |1=> .nilp
 |2=> .nilp
 |_=> .nilp
structure aL where
 e0:Bool
 e1:Bool
instance:Inhabited aL:=⟨⟨default,default⟩⟩
def aL.cell (x:aL):Nat→DV
 |0=>(.bool x.e0)
 |1=>(.bool x.e1)
 |_=> .nilp
structure xL where
 rack:Int
 part:Part
instance:Inhabited xL:=⟨⟨default,default⟩⟩
def xL.cell (x:xL):Nat→DV
 |0=>(.int .i64 x.rack)
 |1=>(.int .i64 x.part.kind)
 |2=>(.int .i64 x.part.index)
 |_=> .nilp
def aG.ev (x:aG):Nat→EV
 |0=> .row 3 1 x.buses.length (aj (aF .i64) x.buses)
 |1=> .row 3 1 x.sources.length (aj (aF .i64) x.sources)
 |_=> .d .nilp
def aM (n:Int) (first:Int) (last:Int):Option Bool:=
 some (bif (decide (first≤n))then(decide (n≤last))else false)
def rH (p:ai):Option (Int × (List Source) × (List Link) × (List aP)):=
 some (p.buses,p.sources,p.links,p.racks)
def vR (p:ai):Option (Int × (List Source) × (List Link) × (List aP)):=
 some (p.buses,p.sources,p.links,p.racks)
def vT (p:ai):Option (Int × (List Source) × (List Link) × (List aP)):=
 some (p.buses,p.sources,p.links,p.racks)
def kU (x:Source) (x1:Int) (x11:(List Source)) (x12:(List Link)) (x13:(List aP)):Option Bool:=
 (aM x.bus 0 (IntKind.wrap .i64 (x1 - 1))).bind fun r_=>
 (bif gB [(r_,true)]then aM x.kind 1 3 else some default).bind fun r_1=>
 (bif gB [((bif r_ then r_1 else false),true)]then aM x.power 1 100000 else some default).bind fun r_2=>
 (bif gB [((bif (bif r_ then r_1 else false)then r_2 else false),true)]then aM x.sync 0 8 else some default).bind fun r_3=>
 (bif gB [((bif (bif (bif r_ then r_1 else false)then r_2 else false)then r_3 else false),true)]then aM x.ohm 10 100000 else some default).bind fun r_4=>
 some (bif (bif (bif (bif r_ then r_1 else false)then r_2 else false)then r_3 else false)then r_4 else false)
def rM (x:Source) (x1:Int) (x11:(List Source)) (x12:(List Link)) (x13:(List aP)):Option Bool:=
 (kU x x1 x11 x12 x13).bind fun r_=>
 some (!r_)
def jY (s_:(List Source)) (f_:Int) (f_1:(List Source)) (f_2:(List Link)) (f_3:(List aP)):Int→Option (aW Int (Ex Unit Int)):=
 fun t8=>
 bif (decide (t8<(s_.length:Int)))then
 (rM (at' s_ t8.toNat) f_ f_1 f_2 f_3).bind fun r_=>
 bQ ((0:Int)≤t8∧t8<(s_.length:Int)) (
 bif r_ then
 some (.done (.ret t8))
 else
 some (.next (IntKind.wrap .i64 (t8+1))))
 else
 some (.done (.brk ()))
def mI (s_:(List Source)) (f_:Int) (f_1:(List Source)) (f_2:(List Link)) (f_3:(List aP)):Option Int:=
 Option.bind (aC (jY s_ f_ f_1 f_2 f_3) FUEL (0)) fun o=>match o with
 | .ret v=>some v
 | .brk _=>
 some (-1)
def gV (s_:(List Source)) (f_:Int) (f_1:(List Source)) (f_2:(List Link)) (f_3:(List aP)):Option Bool:=
 (mI s_ f_ f_1 f_2 f_3).bind fun r_=>
 some (decide (0≤r_))
def qg (l:(List Source)) (most:Int) (right:Int) (right1:(List Source)) (right2:(List Link)) (right3:(List aP)):Option Bool:=
 (bif gB [((decide ((l.length:Int)≤most)),true)]then gV l right right1 right2 right3 else some default).bind fun r_=>
 some (bif (decide ((l.length:Int)≤most))then(!r_)else false)
def ku (x:Link):Int→Option (aW Int (Ex Unit Bool)):=
 fun t50=>
 bif (decide (t50<(x.trip.length:Int)))then
 bQ ((0:Int)≤t50∧t50<(x.trip.length:Int)) (
 (aM ((at' x.trip t50.toNat).amps) 1 1000000).bind fun r_5=>
 (bif gB [((!r_5),false)]then aM ((at' x.trip t50.toNat).millis) 1 100000 else some default).bind fun r_6=>
 bQ ((gB [((decide (0<t50)),true),((bif (!r_5)then true else(!r_6)),false)]=true→(0:Int)≤(IntKind.wrap .i64 (t50 - 1))∧(IntKind.wrap .i64 (t50 - 1))<(x.trip.length:Int))∧(gB [((decide (((at' x.trip t50.toNat).amps)≤((at' x.trip ((IntKind.wrap .i64 (t50 - 1)).toNat)).amps))),false),((decide (0<t50)),true),((bif (!r_5)then true else(!r_6)),false)]=true→(0:Int)≤(IntKind.wrap .i64 (t50 - 1))∧(IntKind.wrap .i64 (t50 - 1))<(x.trip.length:Int))) (
 bif (bif (bif (!r_5)then true else(!r_6))then true else(bif (decide (0<t50))then(bif (decide (((at' x.trip t50.toNat).amps)≤((at' x.trip ((IntKind.wrap .i64 (t50 - 1)).toNat)).amps)))then true else(decide (((at' x.trip ((IntKind.wrap .i64 (t50 - 1)).toNat)).millis)≤((at' x.trip t50.toNat).millis))))else false))then
 some (.done (.ret false))
 else
 some (.next (IntKind.wrap .i64 (t50+1)))))
 else
 some (.done (.brk ()))
def nT (x:Link) (x1:Int) (x11:(List Source)) (x12:(List Link)) (x13:(List aP)):Option Bool:=
 (aM x.a 0 (IntKind.wrap .i64 (x1 - 1))).bind fun r_=>
 (bif gB [((!r_),false)]then aM x.b 0 (IntKind.wrap .i64 (x1 - 1))else some default).bind fun r_1=>
 (bif gB [((bif (bif (!r_)then true else(!r_1))then true else(decide (x.a=x.b))),false)]then aM x.kind 1 3 else some default).bind fun r_2=>
 (bif gB [((bif (bif (bif (!r_)then true else(!r_1))then true else(decide (x.a=x.b)))then true else(!r_2)),false)]then aM x.most 1 100000 else some default).bind fun r_3=>
 (bif gB [((bif (bif (bif (bif (!r_)then true else(!r_1))then true else(decide (x.a=x.b)))then true else(!r_2))then true else(!r_3)),false)]then aM x.ohm 10 100000 else some default).bind fun r_4=>
 bif (bif (bif (bif (bif (bif (!r_)then true else(!r_1))then true else(decide (x.a=x.b)))then true else(!r_2))then true else(!r_3))then true else(!r_4))then
 some false
 else
 Option.bind (aC (ku x) FUEL (0)) fun o=>match o with
 | .ret v=>some v
 | .brk _=>
 some (bif (decide ((x.trip.length:Int)≤6))then(bif (decide ((x.trip.length:Int)=0))then true else(decide (x.kind=3)))else false)
def nD (x:Link) (x1:Int) (x11:(List Source)) (x12:(List Link)) (x13:(List aP)):Option Bool:=
 (nT x x1 x11 x12 x13).bind fun r_=>
 some (!r_)
def iP (s_:(List Link)) (f_:Int) (f_1:(List Source)) (f_2:(List Link)) (f_3:(List aP)):Int→Option (aW Int (Ex Unit Int)):=
 fun t8=>
 bif (decide (t8<(s_.length:Int)))then
 (nD (at' s_ t8.toNat) f_ f_1 f_2 f_3).bind fun r_=>
 bQ ((0:Int)≤t8∧t8<(s_.length:Int)) (
 bif r_ then
 some (.done (.ret t8))
 else
 some (.next (IntKind.wrap .i64 (t8+1))))
 else
 some (.done (.brk ()))
def jX (s_:(List Link)) (f_:Int) (f_1:(List Source)) (f_2:(List Link)) (f_3:(List aP)):Option Int:=
 Option.bind (aC (iP s_ f_ f_1 f_2 f_3) FUEL (0)) fun o=>match o with
 | .ret v=>some v
 | .brk _=>
 some (-1)
def eY (s_:(List Link)) (f_:Int) (f_1:(List Source)) (f_2:(List Link)) (f_3:(List aP)):Option Bool:=
 (jX s_ f_ f_1 f_2 f_3).bind fun r_=>
 some (decide (0≤r_))
def nQ (l:(List Link)) (most:Int) (right:Int) (right1:(List Source)) (right2:(List Link)) (right3:(List aP)):Option Bool:=
 (bif gB [((decide ((l.length:Int)≤most)),true)]then eY l right right1 right2 right3 else some default).bind fun r_=>
 some (bif (decide ((l.length:Int)≤most))then(!r_)else false)
def oU (x:aP):Option Int:=
 bif (decide (x.feeds.e1=(-1)))then
 some 1
 else
 some 2
def nA (x:aP) (x1:Int) (x11:(List Source)) (x12:(List Link)) (x13:(List aP)):Option Bool:=
 (aM x.feeds.e0 0 (IntKind.wrap .i64 (x1 - 1))).bind fun r_=>
 (bif gB [(r_,true)]then aM x.feeds.e1 (-1) (IntKind.wrap .i64 (x1 - 1))else some default).bind fun r_1=>
 (bif gB [((bif (bif r_ then r_1 else false)then(!decide (x.feeds.e0=x.feeds.e1))else false),true)]then aM x.power 1 100000 else some default).bind fun r_2=>
 (bif gB [((bif (bif (bif r_ then r_1 else false)then(!decide (x.feeds.e0=x.feeds.e1))else false)then r_2 else false),true)]then oU x else some default).bind fun r_3=>
 (bif gB [((bif (bif (bif r_ then r_1 else false)then(!decide (x.feeds.e0=x.feeds.e1))else false)then r_2 else false),true)]then aM x.paths 0 r_3 else some default).bind fun r_4=>
 some (bif (bif (bif (bif r_ then r_1 else false)then(!decide (x.feeds.e0=x.feeds.e1))else false)then r_2 else false)then r_4 else false)
def ny (x:aP) (x1:Int) (x11:(List Source)) (x12:(List Link)) (x13:(List aP)):Option Bool:=
 (nA x x1 x11 x12 x13).bind fun r_=>
 some (!r_)
def iR (s_:(List aP)) (f_:Int) (f_1:(List Source)) (f_2:(List Link)) (f_3:(List aP)):Int→Option (aW Int (Ex Unit Int)):=
 fun t8=>
 bif (decide (t8<(s_.length:Int)))then
 (ny (⟨((at' s_ t8.toNat).feeds),(at' s_ t8.toNat).power,(at' s_ t8.toNat).paths⟩:aP) f_ f_1 f_2 f_3).bind fun r_=>
 bQ ((0:Int)≤t8∧t8<(s_.length:Int)) (
 bif r_ then
 some (.done (.ret t8))
 else
 some (.next (IntKind.wrap .i64 (t8+1))))
 else
 some (.done (.brk ()))
def j3 (s_:(List aP)) (f_:Int) (f_1:(List Source)) (f_2:(List Link)) (f_3:(List aP)):Option Int:=
 Option.bind (aC (iR s_ f_ f_1 f_2 f_3) FUEL (0)) fun o=>match o with
 | .ret v=>some v
 | .brk _=>
 some (-1)
def eZ (s_:(List aP)) (f_:Int) (f_1:(List Source)) (f_2:(List Link)) (f_3:(List aP)):Option Bool:=
 (j3 s_ f_ f_1 f_2 f_3).bind fun r_=>
 some (decide (0≤r_))
def nP (l:(List aP)) (most:Int) (right:Int) (right1:(List Source)) (right2:(List Link)) (right3:(List aP)):Option Bool:=
 (bif gB [((decide ((l.length:Int)≤most)),true)]then eZ l right right1 right2 right3 else some default).bind fun r_=>
 some (bif (decide ((l.length:Int)≤most))then(!r_)else false)
def l8 (p:ai):Option Int:=
 (aM p.buses 1 24).bind fun r_=>
 bif (!r_)then
 some 10
 else
 (rH p).bind fun r_1=>
 (qg p.sources 8 r_1.1 r_1.2.1 r_1.2.2.1 r_1.2.2.2).bind fun r_2=>
 bif (!r_2)then
 some 11
 else
 (vR p).bind fun r_3=>
 (nQ p.links 40 r_3.1 r_3.2.1 r_3.2.2.1 r_3.2.2.2).bind fun r_4=>
 bif (!r_4)then
 some 12
 else
 (vT p).bind fun r_5=>
 (nP p.racks 24 r_5.1 r_5.2.1 r_5.2.2.1 r_5.2.2.2).bind fun r_6=>
 bif (!r_6)then
 some 13
 else
 some 0
def gW (p:ai) (s_:State):Int→Option (aW Int (Ex Unit Int)):=
 fun t55=>
 bif (decide (t55<([(⟨s_.closed,(p.links.length:Int)⟩:bU),(⟨s_.locked,(p.links.length:Int)⟩:bU),(⟨s_.badLink,(p.links.length:Int)⟩:bU),(⟨s_.on_,(p.sources.length:Int)⟩:bU),(⟨s_.badSource,(p.sources.length:Int)⟩:bU),(⟨s_.earthed,p.buses⟩:bU),(⟨s_.badBus,p.buses⟩:bU)].length:Int)))then
 bQ ((0:Int)≤t55∧t55<([(⟨s_.closed,(p.links.length:Int)⟩:bU),(⟨s_.locked,(p.links.length:Int)⟩:bU),(⟨s_.badLink,(p.links.length:Int)⟩:bU),(⟨s_.on_,(p.sources.length:Int)⟩:bU),(⟨s_.badSource,(p.sources.length:Int)⟩:bU),(⟨s_.earthed,p.buses⟩:bU),(⟨s_.badBus,p.buses⟩:bU)].length:Int)) (
 bif (!decide ((((at' [(⟨s_.closed,(p.links.length:Int)⟩:bU),(⟨s_.locked,(p.links.length:Int)⟩:bU),(⟨s_.badLink,(p.links.length:Int)⟩:bU),(⟨s_.on_,(p.sources.length:Int)⟩:bU),(⟨s_.badSource,(p.sources.length:Int)⟩:bU),(⟨s_.earthed,p.buses⟩:bU),(⟨s_.badBus,p.buses⟩:bU)] t55.toNat).l).length:Int)=((at' [(⟨s_.closed,(p.links.length:Int)⟩:bU),(⟨s_.locked,(p.links.length:Int)⟩:bU),(⟨s_.badLink,(p.links.length:Int)⟩:bU),(⟨s_.on_,(p.sources.length:Int)⟩:bU),(⟨s_.badSource,(p.sources.length:Int)⟩:bU),(⟨s_.earthed,p.buses⟩:bU),(⟨s_.badBus,p.buses⟩:bU)] t55.toNat).n)))then
 some (.done (.ret 9))
 else
 some (.next (IntKind.wrap .i64 (t55+1))))
 else
 some (.done (.brk ()))
def gU (p:ai) (s_:State):Int→Option (aW Int (Ex Unit Int)):=
 fun t69=>
 bif (decide (t69<(p.links.length:Int)))then
 bQ ((0:Int)≤t69∧t69<(p.links.length:Int)) (
 bQ ((gB [((decide (((at' p.links t69.toNat).kind)=1)),true)]=true→(0:Int)≤t69∧t69<(s_.closed.length:Int))∧(gB [((!(at' s_.closed t69.toNat)),false),((decide (((at' p.links t69.toNat).kind)=1)),true)]=true→(0:Int)≤t69∧t69<(s_.locked.length:Int))) (
 bif (bif (decide (((at' p.links t69.toNat).kind)=1))then(bif (!(at' s_.closed t69.toNat))then true else(at' s_.locked t69.toNat))else false)then
 some (.done (.ret 9))
 else
 some (.next (IntKind.wrap .i64 (t69+1)))))
 else
 some (.done (.brk ()))
def dh (p:ai) (s_:State):Option Int:=
 (l8 p).bind fun r_=>
 bif (!decide (r_=0))then
 some r_
 else
 Option.bind (aC (gW p s_) FUEL (0)) fun o=>match o with
 | .ret v=>some v
 | .brk _=>
 Option.bind (aC (gU p s_) FUEL (0)) fun o=>match o with
 | .ret v=>some v
 | .brk _=>
 some 0
def dQ (i:Int) (x1:Int) (x11:(List Source)) (x12:(List Link)) (x13:(List aP)):Option Bool:=
 bQ (gB [((bif (decide (0≤i))then(decide (i<(x12.length:Int)))else false),true)]=true→(0:Int)≤i∧i<(x12.length:Int)) (
 some (bif (bif (decide (0≤i))then(decide (i<(x12.length:Int)))else false)then(!decide (((at' x12 i.toNat).kind)=1))else false))
def fB (x:Transfer) (x1:Int) (x11:(List Source)) (x12:(List Link)) (x13:(List aP)) (x2:Int) (x21:(List Source)) (x22:(List Link)) (x23:(List aP)):Option Bool:=
 (bif gB [((bif (decide (x.watch<0))then true else(decide (x1≤x.watch))),false)]then dQ x.close x2 x21 x22 x23 else some default).bind fun r_=>
 (bif gB [((!decide (x.open_=(-1))),true),((bif (bif (decide (x.watch<0))then true else(decide (x1≤x.watch)))then true else(!r_)),false)]then dQ x.open_ x2 x21 x22 x23 else some default).bind fun r_1=>
 some (bif (bif (bif (decide (x.watch<0))then true else(decide (x1≤x.watch)))then true else(!r_))then true else(bif (!decide (x.open_=(-1)))then(bif (!r_1)then true else(decide (x.open_=x.close)))else false))
def iQ (s_:(List Transfer)) (f_:Int) (f_1:(List Source)) (f_2:(List Link)) (f_3:(List aP)) (f_4:Int) (f_5:(List Source)) (f_6:(List Link)) (f_7:(List aP)):Int→Option (aW Int (Ex Unit Int)):=
 fun t8=>
 bif (decide (t8<(s_.length:Int)))then
 (fB (at' s_ t8.toNat) f_ f_1 f_2 f_3 f_4 f_5 f_6 f_7).bind fun r_=>
 bQ ((0:Int)≤t8∧t8<(s_.length:Int)) (
 bif r_ then
 some (.done (.ret t8))
 else
 some (.next (IntKind.wrap .i64 (t8+1))))
 else
 some (.done (.brk ()))
def jV (s_:(List Transfer)) (f_:Int) (f_1:(List Source)) (f_2:(List Link)) (f_3:(List aP)) (f_4:Int) (f_5:(List Source)) (f_6:(List Link)) (f_7:(List aP)):Option Int:=
 Option.bind (aC (iQ s_ f_ f_1 f_2 f_3 f_4 f_5 f_6 f_7) FUEL (0)) fun o=>match o with
 | .ret v=>some v
 | .brk _=>
 some (-1)
def fD (s_:(List Transfer)) (f_:Int) (f_1:(List Source)) (f_2:(List Link)) (f_3:(List aP)) (f_4:Int) (f_5:(List Source)) (f_6:(List Link)) (f_7:(List aP)):Option Bool:=
 (jV s_ f_ f_1 f_2 f_3 f_4 f_5 f_6 f_7).bind fun r_=>
 some (decide (0≤r_))
def eP (p:ai) (s_:State) (l:(List Transfer)):Option Int:=
 (dh p s_).bind fun r_=>
 bif (!decide (r_=0))then
 some r_
 else
 (bif gB [((decide (16<(l.length:Int))),false)]then fD l p.buses p.sources p.links p.racks p.buses p.sources p.links p.racks else some default).bind fun r_1=>
 bif (bif (decide (16<(l.length:Int)))then true else r_1)then
 some 1
 else
 some 0
def rF (s_:(List Bool)) (s_nn:Bool):Option (List Bool):=
 bif (!s_nn)then
 some ([]:List Bool)
 else
 bQ (((([]:List Bool).length+s_.length)*1≤140737488355328)∧(([]:List Bool).length+s_.length≤4611686018427387904)) (
 some (([]:List Bool)++s_))
def aU (s:(List Bool)):Option (List Bool):=rF s true
def nR (s_:State):Option State:=
 bQ ((0:Int)≤0∧0<(7:Int)) (
 (aU s_.closed).bind fun r_=>
 bQ ((0:Int)≤1∧1<(7:Int)) (
 (aU s_.locked).bind fun r_1=>
 bQ ((0:Int)≤2∧2<(7:Int)) (
 (aU s_.badLink).bind fun r_2=>
 bQ ((0:Int)≤3∧3<(7:Int)) (
 (aU s_.on_).bind fun r_3=>
 bQ ((0:Int)≤4∧4<(7:Int)) (
 (aU s_.badSource).bind fun r_4=>
 bQ ((0:Int)≤5∧5<(7:Int)) (
 (aU s_.earthed).bind fun r_5=>
 bQ ((0:Int)≤6∧6<(7:Int)) (
 (aU s_.badBus).bind fun r_6=>
 some (⟨r_,r_1,r_2,r_3,r_4,r_5,r_6⟩:State))))))))
def nG (p:ai) (s_:State) (l:(List Transfer)):Option ((List Transfer) × Int × (List Source) × (List Link) × (List aP) × State):=
 some (l,p.buses,p.sources,p.links,p.racks,s_)
def jH (p:ai) (s_:State):Option (Int × (List Source) × (List Link) × (List aP) × (List Bool) × (List Bool) × (List Bool) × (List Bool) × (List Bool) × (List Bool) × (List Bool)):=
 some (p.buses,p.sources,p.links,p.racks,s_.closed,s_.locked,s_.badLink,s_.on_,s_.badSource,s_.earthed,s_.badBus)
def dR (g:aY):Int→Option (aW Int (Ex Unit Int)):=
 fun x1=>
 bif (!((aV bT x1 g.head).isSome))then
 some (.done (.ret x1))
 else
 some (.next ((aV bT x1 g.head).getD 0))
def bV (g:aY) (x:Int):Option Int:=
 Option.bind (aC (dR g) FUEL (x)) fun o=>match o with
 | .ret v=>some v
 | .brk _=>none
def iX (g:aY) (a:Int) (b:Int):Option (List (Int × Int)):=
 (bV g a).bind fun r_=>
 (bV g b).bind fun r_1=>
 bif (!decide (r_=r_1))then
 some (fO bT r_ r_1 g.head)
 else
 some g.head
def kN (x22:Int) (x221:Int) (x222:Int) (x223:Int) (x224:Int) (x225:(List tY)) (o_:aY):Option aY:=
 (iX o_ x22 x221).bind fun r_=>
 some (⟨r_⟩:aY)
def cO (x12:(List Link)) (x2:(List Bool)) (x22:(List Bool)) (x26:(List Bool)):((List (Int × Int)) × Int)→Option (aW ((List (Int × Int)) × Int) (Ex (List (Int × Int)) aY)):=
 fun zz=>match zz with
 |(o50,t9)=>
 bif (decide (t9<(x12.length:Int)))then
 bQ ((0:Int)≤t9∧t9<(x12.length:Int)) (
 bif (bif (bif (bif (at' x2 t9.toNat)then(!(at' x22 t9.toNat))else false)then(!(at' x26 (((at' x12 t9.toNat).a).toNat)))else false)then(!(at' x26 (((at' x12 t9.toNat).b).toNat)))else false)then
 (kN ((at' x12 t9.toNat).a) ((at' x12 t9.toNat).b) ((at' x12 t9.toNat).kind) ((at' x12 t9.toNat).most) ((at' x12 t9.toNat).ohm) ((at' x12 t9.toNat).trip) (⟨o50⟩:aY)).bind fun r_=>
 bQ (((0:Int)≤t9∧t9<(x2.length:Int))∧(gB [((at' x2 t9.toNat),true)]=true→(0:Int)≤t9∧t9<(x22.length:Int))∧(gB [((bif (at' x2 t9.toNat)then(!(at' x22 t9.toNat))else false),true)]=true→(0:Int)≤(at' x12 t9.toNat).a∧(at' x12 t9.toNat).a<(x26.length:Int))∧(gB [((bif (bif (at' x2 t9.toNat)then(!(at' x22 t9.toNat))else false)then(!(at' x26 (((at' x12 t9.toNat).a).toNat)))else false),true)]=true→(0:Int)≤(at' x12 t9.toNat).b∧(at' x12 t9.toNat).b<(x26.length:Int))) (
 some (.next (r_.head,(IntKind.wrap .i64 (t9+1)))))
 else
 bQ (((0:Int)≤t9∧t9<(x2.length:Int))∧(gB [((at' x2 t9.toNat),true)]=true→(0:Int)≤t9∧t9<(x22.length:Int))∧(gB [((bif (at' x2 t9.toNat)then(!(at' x22 t9.toNat))else false),true)]=true→(0:Int)≤(at' x12 t9.toNat).a∧(at' x12 t9.toNat).a<(x26.length:Int))∧(gB [((bif (bif (at' x2 t9.toNat)then(!(at' x22 t9.toNat))else false)then(!(at' x26 (((at' x12 t9.toNat).a).toNat)))else false),true)]=true→(0:Int)≤(at' x12 t9.toNat).b∧(at' x12 t9.toNat).b<(x26.length:Int))) (
 some (.next (o50,(IntKind.wrap .i64 (t9+1))))))
 else
 some (.done (.brk o50))
def kS (x1:Int) (x11:(List Source)) (x12:(List Link)) (x13:(List aP)) (x2:(List Bool)) (x21:(List Bool)) (x22:(List Bool)) (x23:(List Bool)) (x24:(List Bool)) (x25:(List Bool)) (x26:(List Bool)) (o_:aY):Option aY:=
 Option.bind (aC (cO x12 x2 x22 x26) FUEL (o_.head,0)) fun o=>match o with
 | .ret v=>some v
 | .brk o501=>
 some (⟨o501⟩:aY)
def bG (p:ai) (s_:State) (r_1:aY):((List aG) × (List (Int × Int)) × Int)→Option (aW ((List aG) × (List (Int × Int)) × Int) (Ex ((List aG) × (List (Int × Int))) (List aG))):=
 fun zz=>match zz with
 |(out,at_,t32)=>
 bif (decide (t32<p.buses))then
 bQ ((0:Int)≤t32∧t32<(s_.badBus.length:Int)) (
 bif (at' s_.badBus t32.toNat)then
 some (.next (out,at_,(IntKind.wrap .i64 (t32+1))))
 else
 (bV r_1 t32).bind fun r_2=>
 bif (!((aV bT r_2 at_).isSome))then
 bQ (((out.length+[(⟨([]:List Int),([]:List Int)⟩:aG)].length)*48≤140737488355328)∧(out.length+[(⟨([]:List Int),([]:List Int)⟩:aG)].length≤4611686018427387904)) (
 bQ (((0:Int)≤((aV bT r_2 (fO bT r_2 (out.length:Int) at_)).getD 0)∧((aV bT r_2 (fO bT r_2 (out.length:Int) at_)).getD 0)<((out++[(⟨([]:List Int),([]:List Int)⟩:aG)]).length:Int))∧((((at' (out++[(⟨([]:List Int),([]:List Int)⟩:aG)]) (((aV bT r_2 (fO bT r_2 (out.length:Int) at_)).getD 0).toNat)).buses).length+[t32].length)*8≤140737488355328)∧(((at' (out++[(⟨([]:List Int),([]:List Int)⟩:aG)]) (((aV bT r_2 (fO bT r_2 (out.length:Int) at_)).getD 0).toNat)).buses).length+[t32].length≤4611686018427387904)) (
 some (.next (((out++[(⟨([]:List Int),([]:List Int)⟩:aG)]).set (((aV bT r_2 (fO bT r_2 (out.length:Int) at_)).getD 0).toNat) (⟨(((at' (out++[(⟨([]:List Int),([]:List Int)⟩:aG)]) (((aV bT r_2 (fO bT r_2 (out.length:Int) at_)).getD 0).toNat)).buses)++[t32]),(at' (out++[(⟨([]:List Int),([]:List Int)⟩:aG)]) (((aV bT r_2 (fO bT r_2 (out.length:Int) at_)).getD 0).toNat)).sources⟩:aG)),(fO bT r_2 (out.length:Int) at_),(IntKind.wrap .i64 (t32+1))))))
 else
 bQ (((0:Int)≤((aV bT r_2 at_).getD 0)∧((aV bT r_2 at_).getD 0)<(out.length:Int))∧((((at' out (((aV bT r_2 at_).getD 0).toNat)).buses).length+[t32].length)*8≤140737488355328)∧(((at' out (((aV bT r_2 at_).getD 0).toNat)).buses).length+[t32].length≤4611686018427387904)) (
 some (.next ((out.set (((aV bT r_2 at_).getD 0).toNat) (⟨(((at' out (((aV bT r_2 at_).getD 0).toNat)).buses)++[t32]),(at' out (((aV bT r_2 at_).getD 0).toNat)).sources⟩:aG)),at_,(IntKind.wrap .i64 (t32+1))))))
 else
 some (.done (.brk (out,at_)))
def bH (p:ai) (s_:State) (r_1:aY) (at_1:(List (Int × Int))):((List aG) × Int)→Option (aW ((List aG) × Int) (Ex (List aG) (List aG))):=
 fun zz=>match zz with
 |(out2,t78)=>
 bif (decide (t78<(p.sources.length:Int)))then
 bQ ((0:Int)≤t78∧t78<(p.sources.length:Int)) (
 bQ (((0:Int)≤t78∧t78<(s_.on_.length:Int))∧(gB [((at' s_.on_ t78.toNat),true)]=true→(0:Int)≤t78∧t78<(s_.badSource.length:Int))∧(gB [((bif (at' s_.on_ t78.toNat)then(!(at' s_.badSource t78.toNat))else false),true)]=true→(0:Int)≤(at' p.sources t78.toNat).bus∧(at' p.sources t78.toNat).bus<(s_.badBus.length:Int))) (
 bif (bif (bif (at' s_.on_ t78.toNat)then(!(at' s_.badSource t78.toNat))else false)then(!(at' s_.badBus (((at' p.sources t78.toNat).bus).toNat)))else false)then
 (bV r_1 ((at' p.sources t78.toNat).bus)).bind fun r_3=>
 bQ (((0:Int)≤((aV bT r_3 at_1).getD 0)∧((aV bT r_3 at_1).getD 0)<(out2.length:Int))∧((((at' out2 (((aV bT r_3 at_1).getD 0).toNat)).sources).length+[t78].length)*8≤140737488355328)∧(((at' out2 (((aV bT r_3 at_1).getD 0).toNat)).sources).length+[t78].length≤4611686018427387904)) (
 some (.next ((out2.set (((aV bT r_3 at_1).getD 0).toNat) (⟨(at' out2 (((aV bT r_3 at_1).getD 0).toNat)).buses,(((at' out2 (((aV bT r_3 at_1).getD 0).toNat)).sources)++[t78])⟩:aG)),(IntKind.wrap .i64 (t78+1)))))
 else
 some (.next (out2,(IntKind.wrap .i64 (t78+1))))))
 else
 some (.done (.brk out2))
def fM (p:ai) (s_:State):Option (List aG):=
 (jH p s_).bind fun r_=>
 (kS r_.1 r_.2.1 r_.2.2.1 r_.2.2.2.1 r_.2.2.2.2.1 r_.2.2.2.2.2.1 r_.2.2.2.2.2.2.1 r_.2.2.2.2.2.2.2.1 r_.2.2.2.2.2.2.2.2.1 r_.2.2.2.2.2.2.2.2.2.1 r_.2.2.2.2.2.2.2.2.2.2 (⟨([]:(List (Int × Int)))⟩:aY)).bind fun r_1=>
 Option.bind (aC (bG p s_ r_1) FUEL (([]:List aG),([]:(List (Int × Int))),0)) fun o=>match o with
 | .ret v=>some v
 | .brk (out1,at_1)=>
 Option.bind (aC (bH p s_ r_1 at_1) FUEL (out1,0)) fun o=>match o with
 | .ret v=>some v
 | .brk out3=>
 some out3
def jP (r_1:(List aG)) (t25:Int):((List Bool) × Int)→Option (aW ((List Bool) × Int) (Ex (List Bool) (aW ((List Bool) × Int) (Ex (List Bool) ((List Bool) × Int))))):=
 fun zz=>match zz with
 |(out2,t32)=>
 bif (decide (t32<(((at' r_1 t25.toNat).buses).length:Int)))then
 bQ ((0:Int)≤t32∧t32<(((at' r_1 t25.toNat).buses).length:Int)) (
 bQ ((0:Int)≤(at' ((at' r_1 t25.toNat).buses) t32.toNat)∧(at' ((at' r_1 t25.toNat).buses) t32.toNat)<(out2.length:Int)) (
 some (.next ((out2.set ((at' ((at' r_1 t25.toNat).buses) t32.toNat).toNat) (decide (0<(((at' r_1 t25.toNat).sources).length:Int)))),(IntKind.wrap .i64 (t32+1))))))
 else
 some (.done (.brk out2))
def jM (r_1:(List aG)):((List Bool) × Int)→Option (aW ((List Bool) × Int) (Ex (List Bool) ((List Bool) × Int))):=
 fun zz=>match zz with
 |(out,t25)=>
 bif (decide (t25<(r_1.length:Int)))then
 bQ ((0:Int)≤t25∧t25<(r_1.length:Int)) (
 Option.bind (aC (jP r_1 t25) FUEL (out,0)) fun o=>match o with
 | .ret v=>some v
 | .brk out3=>
 some (.next (out3,(IntKind.wrap .i64 (t25+1)))))
 else
 some (.done (.brk out))
def dA (p:ai) (s_:State):Option ((List Bool) × Int):=
 (dh p s_).bind fun r_=>
 bif (!decide (r_=0))then
 some (([]:List Bool),r_)
 else
 bQ (((0:Int)≤p.buses)∧((1:Int)*p.buses≤281474976710656)∧((p.buses:Int)≤9223372036854775807)) (
 (fM p s_).bind fun r_1=>
 Option.bind (aC (jM r_1) FUEL ((List.replicate p.buses.toNat (false:Bool)),0)) fun o=>match o with
 | .ret v=>some v
 | .brk out1=>
 some (out1,0))
def aS (x y:ah):Int:=if x.e0<y.e0 then -1 else if y.e0<x.e0 then 1 else if x.e1<y.e1 then -1 else if y.e1<x.e1 then 1 else 0
def iN (s:(List ah)):Option (List ah):=match s with
 |[]=>some []
 |x::xs=>bif decide ((x::xs).length<4611686018427387904)then some ((x::xs).mergeSort fun x y=> !decide (aS y x<0))else none
def jB (p:ai) (r_1:(List aG)) (t24:Int) (t31:Int):((List ah) × Int)→Option (aW ((List ah) × Int) (Ex (List ah) (aW ((List ah) × Int) (Ex (List ah) (aW ((List ah) × Int) (Ex (List ah) ((List ah) × Int))))))):=
 fun zz=>match zz with
 |(out4,t42)=>
 bif (decide (t42<(((((at' r_1 t24.toNat).sources).length - ((IntKind.wrap .i64 (t31+1)).toNat)):Nat):Int)))then
 bQ ((0:Int)≤t42∧t42<((((at' r_1 t24.toNat).sources).drop ((IntKind.wrap .i64 (t31+1)).toNat)).length:Int)) (
 bQ (((0:Int)≤(at' ((at' r_1 t24.toNat).sources) t31.toNat)∧(at' ((at' r_1 t24.toNat).sources) t31.toNat)<(p.sources.length:Int))∧(gB [((decide (((at' p.sources ((at' ((at' r_1 t24.toNat).sources) t31.toNat).toNat)).sync)=0)),false)]=true→(0:Int)≤(at' ((at' r_1 t24.toNat).sources) t31.toNat)∧(at' ((at' r_1 t24.toNat).sources) t31.toNat)<(p.sources.length:Int))∧(gB [((decide (((at' p.sources ((at' ((at' r_1 t24.toNat).sources) t31.toNat).toNat)).sync)=0)),false)]=true→(0:Int)≤(at' (((at' r_1 t24.toNat).sources).drop ((IntKind.wrap .i64 (t31+1)).toNat)) t42.toNat)∧(at' (((at' r_1 t24.toNat).sources).drop ((IntKind.wrap .i64 (t31+1)).toNat)) t42.toNat)<(p.sources.length:Int))) (
 bif (bif (decide (((at' p.sources ((at' ((at' r_1 t24.toNat).sources) t31.toNat).toNat)).sync)=0))then true else(!decide (((at' p.sources ((at' ((at' r_1 t24.toNat).sources) t31.toNat).toNat)).sync)=((at' p.sources ((at' (((at' r_1 t24.toNat).sources).drop ((IntKind.wrap .i64 (t31+1)).toNat)) t42.toNat).toNat)).sync))))then
 bQ (((out4.length+[(⟨(at' ((at' r_1 t24.toNat).sources) t31.toNat),(at' (((at' r_1 t24.toNat).sources).drop ((IntKind.wrap .i64 (t31+1)).toNat)) t42.toNat)⟩:ah)].length)*16≤140737488355328)∧(out4.length+[(⟨(at' ((at' r_1 t24.toNat).sources) t31.toNat),(at' (((at' r_1 t24.toNat).sources).drop ((IntKind.wrap .i64 (t31+1)).toNat)) t42.toNat)⟩:ah)].length≤4611686018427387904)) (
 some (.next ((out4++[(⟨(at' ((at' r_1 t24.toNat).sources) t31.toNat),(at' (((at' r_1 t24.toNat).sources).drop ((IntKind.wrap .i64 (t31+1)).toNat)) t42.toNat)⟩:ah)]),(IntKind.wrap .i64 (t42+1)))))
 else
 some (.next (out4,(IntKind.wrap .i64 (t42+1))))))
 else
 some (.done (.brk out4))
def jI (p:ai) (r_1:(List aG)) (t24:Int):((List ah) × Int)→Option (aW ((List ah) × Int) (Ex (List ah) (aW ((List ah) × Int) (Ex (List ah) ((List ah) × Int))))):=
 fun zz=>match zz with
 |(out2,t31)=>
 bif (decide (t31<(((at' r_1 t24.toNat).sources).length:Int)))then
 bQ ((0:Int)≤t31∧t31<(((at' r_1 t24.toNat).sources).length:Int)) (
 bQ ((0:Int)≤(IntKind.wrap .i64 (t31+1))∧(IntKind.wrap .i64 (t31+1))≤(((at' r_1 t24.toNat).sources).length:Int)) (
 Option.bind (aC (jB p r_1 t24 t31) FUEL (out2,0)) fun o=>match o with
 | .ret v=>some v
 | .brk out5=>
 some (.next (out5,(IntKind.wrap .i64 (t31+1))))))
 else
 some (.done (.brk out2))
def gK (p:ai) (r_1:(List aG)):((List ah) × Int)→Option (aW ((List ah) × Int) (Ex (List ah) ((List ah) × Int))):=
 fun zz=>match zz with
 |(out,t24)=>
 bif (decide (t24<(r_1.length:Int)))then
 bQ ((0:Int)≤t24∧t24<(r_1.length:Int)) (
 Option.bind (aC (jI p r_1 t24) FUEL (out,0)) fun o=>match o with
 | .ret v=>some v
 | .brk out3=>
 some (.next (out3,(IntKind.wrap .i64 (t24+1)))))
 else
 some (.done (.brk out))
def dz (p:ai) (s_:State):Option ((List ah) × Int):=
 (dh p s_).bind fun r_=>
 bif (!decide (r_=0))then
 some (([]:List ah),r_)
 else
 (fM p s_).bind fun r_1=>
 Option.bind (aC (gK p r_1) FUEL (([]:List ah),0)) fun o=>match o with
 | .ret v=>some v
 | .brk out1=>
 (iN out1).bind fun r_2=>
 bQ (out1.length=r_2.length) (
 some (r_2,0))
def nC (s_:(List ah)) (v_:ah):Int→Option (aW Int (Ex Unit Int)):=
 fun t8=>
 bif (decide (t8<(s_.length:Int)))then
 bQ ((0:Int)≤t8∧t8<(s_.length:Int)) (
 bif ((decide (v_.e0=((at' s_ t8.toNat).e0))) && ((decide (v_.e1=((at' s_ t8.toNat).e1))) && true))then
 some (.done (.ret t8))
 else
 some (.next (IntKind.wrap .i64 (t8+1))))
 else
 some (.done (.brk ()))
def qN (s_:(List ah)) (v_:ah):Option Int:=
 Option.bind (aC (nC s_ v_) FUEL (0)) fun o=>match o with
 | .ret v=>some v
 | .brk _=>
 some (-1)
def kg (s_:(List ah)) (v_:ah):Option Bool:=
 (qN s_ v_).bind fun r_=>
 some (decide (0≤r_))
def pK (c:ah) (x1:(List ah)):Option Bool:=
 (kg x1 c).bind fun r_=>
 some (!r_)
def iV (s_:(List ah)) (f_:(List ah)):Int→Option (aW Int (Ex Unit Int)):=
 fun t8=>
 bif (decide (t8<(s_.length:Int)))then
 (pK (at' s_ t8.toNat) f_).bind fun r_=>
 bQ ((0:Int)≤t8∧t8<(s_.length:Int)) (
 bif r_ then
 some (.done (.ret t8))
 else
 some (.next (IntKind.wrap .i64 (t8+1))))
 else
 some (.done (.brk ()))
def jU (s_:(List ah)) (f_:(List ah)):Option Int:=
 Option.bind (aC (iV s_ f_) FUEL (0)) fun o=>match o with
 | .ret v=>some v
 | .brk _=>
 some (-1)
def cu (s_:(List ah)) (f_:(List ah)):Option Bool:=
 (jU s_ f_).bind fun r_=>
 some (decide (0≤r_))
def gF (s_:State) (r_:((List Bool) × Int)) (r_2:((List Bool) × Int)):Int→Option (aW Int (Ex Unit (State × Bool))):=
 fun t103=>
 bif (decide (t103<(r_2.1.length:Int)))then
 bQ (((0:Int)≤t103∧t103<(r_.1.length:Int))∧(gB [((at' r_.1 t103.toNat),true)]=true→(0:Int)≤t103∧t103<(r_2.1.length:Int))∧(gB [((bif (at' r_.1 t103.toNat)then(!(at' r_2.1 t103.toNat))else false),false)]=true→(0:Int)≤t103∧t103<(r_2.1.length:Int))∧(gB [((at' r_2.1 t103.toNat),true),((bif (at' r_.1 t103.toNat)then(!(at' r_2.1 t103.toNat))else false),false)]=true→(0:Int)≤t103∧t103<(s_.earthed.length:Int))∧(gB [((bif (at' r_2.1 t103.toNat)then(at' s_.earthed t103.toNat)else false),true),((bif (at' r_.1 t103.toNat)then(!(at' r_2.1 t103.toNat))else false),false)]=true→(0:Int)≤t103∧t103<(r_.1.length:Int))) (
 bif (bif (bif (at' r_.1 t103.toNat)then(!(at' r_2.1 t103.toNat))else false)then true else(bif (bif (at' r_2.1 t103.toNat)then(at' s_.earthed t103.toNat)else false)then(!(at' r_.1 t103.toNat))else false))then
 some (.done (.ret (s_,false)))
 else
 some (.next (IntKind.wrap .i64 (t103+1))))
 else
 some (.done (.brk ()))
def uw (s_:State) (r_:((List Bool) × Int)) (r_6:((List Bool) × Int)):Int→Option (aW Int (Ex Unit (State × Bool))):=
 fun t1031=>
 bif (decide (t1031<(r_6.1.length:Int)))then
 bQ (((0:Int)≤t1031∧t1031<(r_.1.length:Int))∧(gB [((at' r_.1 t1031.toNat),true)]=true→(0:Int)≤t1031∧t1031<(r_6.1.length:Int))∧(gB [((bif (at' r_.1 t1031.toNat)then(!(at' r_6.1 t1031.toNat))else false),false)]=true→(0:Int)≤t1031∧t1031<(r_6.1.length:Int))∧(gB [((at' r_6.1 t1031.toNat),true),((bif (at' r_.1 t1031.toNat)then(!(at' r_6.1 t1031.toNat))else false),false)]=true→(0:Int)≤t1031∧t1031<(s_.earthed.length:Int))∧(gB [((bif (at' r_6.1 t1031.toNat)then(at' s_.earthed t1031.toNat)else false),true),((bif (at' r_.1 t1031.toNat)then(!(at' r_6.1 t1031.toNat))else false),false)]=true→(0:Int)≤t1031∧t1031<(r_.1.length:Int))) (
 bif (bif (bif (at' r_.1 t1031.toNat)then(!(at' r_6.1 t1031.toNat))else false)then true else(bif (bif (at' r_6.1 t1031.toNat)then(at' s_.earthed t1031.toNat)else false)then(!(at' r_.1 t1031.toNat))else false))then
 some (.done (.ret (s_,false)))
 else
 some (.next (IntKind.wrap .i64 (t1031+1))))
 else
 some (.done (.brk ()))
def mg (p:ai) (s_:State) (x:Transfer):Option (State × Bool):=
 (dA p s_).bind fun r_=>
 bQ (((0:Int)≤x.watch∧x.watch<(s_.badBus.length:Int))∧(gB [((at' s_.badBus x.watch.toNat),false)]=true→(0:Int)≤x.watch∧x.watch<(r_.1.length:Int))∧(gB [((bif (at' s_.badBus x.watch.toNat)then true else(at' r_.1 x.watch.toNat)),false)]=true→(0:Int)≤x.close∧x.close<(s_.closed.length:Int))∧(gB [((bif (bif (at' s_.badBus x.watch.toNat)then true else(at' r_.1 x.watch.toNat))then true else(at' s_.closed x.close.toNat)),false)]=true→(0:Int)≤x.close∧x.close<(s_.badLink.length:Int))∧(gB [((bif (bif (bif (at' s_.badBus x.watch.toNat)then true else(at' r_.1 x.watch.toNat))then true else(at' s_.closed x.close.toNat))then true else(at' s_.badLink x.close.toNat)),false)]=true→(0:Int)≤x.close∧x.close<(s_.locked.length:Int))) (
 bif (bif (bif (bif (bif (at' s_.badBus x.watch.toNat)then true else(at' r_.1 x.watch.toNat))then true else(at' s_.closed x.close.toNat))then true else(at' s_.badLink x.close.toNat))then true else(at' s_.locked x.close.toNat))then
 some (s_,false)
 else
 (aU s_.closed).bind fun r_1=>
 bQ ((0:Int)≤x.close∧x.close<(r_1.length:Int)) (
 bif (decide (0≤x.open_))then
 bQ (((0:Int)≤x.open_∧x.open_<(s_.badLink.length:Int))∧(gB [((at' s_.badLink x.open_.toNat),false)]=true→(0:Int)≤x.open_∧x.open_<(s_.locked.length:Int))) (
 bif (bif (at' s_.badLink x.open_.toNat)then true else(at' s_.locked x.open_.toNat))then
 some (s_,false)
 else
 bQ ((0:Int)≤x.open_∧x.open_<((r_1.set x.close.toNat true).length:Int)) (
 (dA p (⟨((r_1.set x.close.toNat true).set x.open_.toNat false),s_.locked,s_.badLink,s_.on_,s_.badSource,s_.earthed,s_.badBus⟩:State)).bind fun r_2=>
 Option.bind (aC (gF s_ r_ r_2) FUEL (0)) fun o=>match o with
 | .ret v=>some v
 | .brk _=>
 (dz p s_).bind fun r_3=>
 (dz p (⟨((r_1.set x.close.toNat true).set x.open_.toNat false),s_.locked,s_.badLink,s_.on_,s_.badSource,s_.earthed,s_.badBus⟩:State)).bind fun r_4=>
 (bif gB [((!(at' r_2.1 x.watch.toNat)),false)]then cu r_4.1 r_3.1 else some default).bind fun r_5=>
 bQ ((0:Int)≤x.watch∧x.watch<(r_2.1.length:Int)) (
 bif (bif (!(at' r_2.1 x.watch.toNat))then true else r_5)then
 some (s_,false)
 else
 some ((⟨((r_1.set x.close.toNat true).set x.open_.toNat false),s_.locked,s_.badLink,s_.on_,s_.badSource,s_.earthed,s_.badBus⟩:State),true))))
 else
 (dA p (⟨(r_1.set x.close.toNat true),s_.locked,s_.badLink,s_.on_,s_.badSource,s_.earthed,s_.badBus⟩:State)).bind fun r_6=>
 Option.bind (aC (uw s_ r_ r_6) FUEL (0)) fun o=>match o with
 | .ret v=>some v
 | .brk _=>
 (dz p s_).bind fun r_7=>
 (dz p (⟨(r_1.set x.close.toNat true),s_.locked,s_.badLink,s_.on_,s_.badSource,s_.earthed,s_.badBus⟩:State)).bind fun r_8=>
 (bif gB [((!(at' r_6.1 x.watch.toNat)),false)]then cu r_8.1 r_7.1 else some default).bind fun r_9=>
 bQ ((0:Int)≤x.watch∧x.watch<(r_6.1.length:Int)) (
 bif (bif (!(at' r_6.1 x.watch.toNat))then true else r_9)then
 some (s_,false)
 else
 some ((⟨(r_1.set x.close.toNat true),s_.locked,s_.badLink,s_.on_,s_.badSource,s_.earthed,s_.badBus⟩:State),true))))
def lS (x28:Int) (x29:(List Bool)) (x291:(List Bool)) (x292:(List Bool)) (x293:(List Bool)) (x294:(List Bool)) (x295:(List Bool)) (x296:(List Bool)) (state:State) (o_:(List Int)):Option (State × (List Int)):=
 bQ (((o_.length+[x28].length)*8≤140737488355328)∧(o_.length+[x28].length≤4611686018427387904)) (
 some ((⟨x29,x291,x292,x293,x294,x295,x296⟩:State),(o_++[x28])))
def ja (x1:(List Transfer)) (x2:Int) (x21:(List Source)) (x22:(List Link)) (x23:(List aP)) (state:State) (o100:(List Bool)) (o110:(List Int)) (done:(List Bool)):Int→Option (aW Int (Ex Unit (aW ((List Bool) × (List Int) × (List Bool)) (Ex ((List Bool) × (List Int)) (State × State × (List Int)))))):=
 fun t15=>
 bif (decide (t15<(x1.length:Int)))then
 bQ ((0:Int)≤t15∧t15<(x1.length:Int)) (
 bQ ((0:Int)≤t15∧t15<(done.length:Int)) (
 bif (at' done t15.toNat)then
 some (.next (IntKind.wrap .i64 (t15+1)))
 else
 (mg (⟨x2,x21,x22,x23⟩:ai) (⟨o100,state.locked,state.badLink,state.on_,state.badSource,state.earthed,state.badBus⟩:State) (at' x1 t15.toNat)).bind fun r_=>
 bif r_.2 then
 bQ ((0:Int)≤t15∧t15<(done.length:Int)) (
 (lS t15 r_.1.closed state.locked state.badLink state.on_ state.badSource state.earthed state.badBus (⟨o100,state.locked,state.badLink,state.on_,state.badSource,state.earthed,state.badBus⟩:State) o110).bind fun r_1=>
 some (.done (.ret (.next (r_.1.closed,r_1.2,(done.set t15.toNat true))))))
 else
 some (.next (IntKind.wrap .i64 (t15+1)))))
 else
 some (.done (.brk ()))
def iZ (x1:(List Transfer)) (x2:Int) (x21:(List Source)) (x22:(List Link)) (x23:(List aP)) (state:State):((List Bool) × (List Int) × (List Bool))→Option (aW ((List Bool) × (List Int) × (List Bool)) (Ex ((List Bool) × (List Int)) (State × State × (List Int)))):=
 fun zz=>match zz with
 |(o100,o110,done)=>
 Option.bind (aC (ja x1 x2 x21 x22 x23 state o100 o110 done) FUEL (0)) fun o=>match o with
 | .ret v=>some v
 | .brk _=>
 some (.done (.brk (o100,o110)))
def oC (x1:(List Transfer)) (x2:Int) (x21:(List Source)) (x22:(List Link)) (x23:(List aP)) (state:State) (state1:State) (o_:(List Int)):Option (State × State × (List Int)):=
 Option.bind (α:=Unit) (
 bQ (((0:Int)≤(x1.length:Int))∧((1:Int)*(x1.length:Int)≤281474976710656)∧(((x1.length:Int):Int)≤9223372036854775807)) (
 some ())) fun _=>
 Option.bind (aC (iZ x1 x2 x21 x22 x23 state) FUEL (state.closed,o_,(List.replicate ((x1.length:Int).toNat) (false:Bool)))) fun o=>match o with
 | .ret v=>some v
 | .brk (o1001,o1101)=>
 some ((⟨o1001,state.locked,state.badLink,state.on_,state.badSource,state.earthed,state.badBus⟩:State),(⟨o1001,state.locked,state.badLink,state.on_,state.badSource,state.earthed,state.badBus⟩:State),o1101)
def dK (p:ai) (s_:State) (l:(List Transfer)):Option (State × (List Int) × Int):=
 (eP p s_ l).bind fun r_=>
 bif (!decide (r_=0))then
 some ((⟨([]:List Bool),([]:List Bool),([]:List Bool),([]:List Bool),([]:List Bool),([]:List Bool),([]:List Bool)⟩:State),([]:List Int),r_)
 else
 (nR s_).bind fun r_1=>
 (nG p r_1 l).bind fun r_2=>
 (oC r_2.1 r_2.2.1 r_2.2.2.1 r_2.2.2.2.1 r_2.2.2.2.2.1 r_1 r_1 ([]:List Int)).bind fun r_3=>
 some ((⟨r_3.1.closed,r_1.locked,r_1.badLink,r_1.on_,r_1.badSource,r_1.earthed,r_1.badBus⟩:State),r_3.2.2,0)
def kC (a:(List Int)) (b:(List Int)):Int→Option (aW Int (Ex Unit Bool)):=
 fun i=>
 bif (decide (i<(a.length:Int)))then
 bQ (((0:Int)≤i∧i<(a.length:Int))∧((0:Int)≤i∧i<(b.length:Int))) (
 bif (!decide ((at' a i.toNat)=(at' b i.toNat)))then
 some (.done (.ret false))
 else
 some (.next (IntKind.wrap .i64 (i+1))))
 else
 some (.done (.brk ()))
def fw (a:(List Int)) (b:(List Int)):Option Bool:=
 bif (!decide ((a.length:Int)=(b.length:Int)))then
 some false
 else
 Option.bind (aC (kC a b) FUEL (0)) fun o=>match o with
 | .ret v=>some v
 | .brk _=>
 some true
def nO (s_:State):Option State:=
 bQ ((0:Int)≤0∧0<(7:Int)) (
 (aU s_.closed).bind fun r_=>
 bQ ((0:Int)≤1∧1<(7:Int)) (
 (aU s_.locked).bind fun r_1=>
 bQ ((0:Int)≤2∧2<(7:Int)) (
 (aU s_.badLink).bind fun r_2=>
 bQ ((0:Int)≤3∧3<(7:Int)) (
 (aU s_.on_).bind fun r_3=>
 bQ ((0:Int)≤4∧4<(7:Int)) (
 (aU s_.badSource).bind fun r_4=>
 bQ ((0:Int)≤5∧5<(7:Int)) (
 (aU s_.earthed).bind fun r_5=>
 bQ ((0:Int)≤6∧6<(7:Int)) (
 (aU s_.badBus).bind fun r_6=>
 some (⟨r_,r_1,r_2,r_3,r_4,r_5,r_6⟩:State))))))))
def jb (p:ai) (s_:State) (x:Part) (is:Bool):Option (State × Int):=
 (dh p s_).bind fun r_=>
 bif (!decide (r_=0))then
 some ((⟨([]:List Bool),([]:List Bool),([]:List Bool),([]:List Bool),([]:List Bool),([]:List Bool),([]:List Bool)⟩:State),r_)
 else
 (nO s_).bind fun r_1=>
 bif (bT x.kind 1)then
 (aM x.index 0 (IntKind.wrap .i64 ((r_1.badBus.length:Int) - 1))).bind fun r_2=>
 bif (!r_2)then
 some ((⟨([]:List Bool),([]:List Bool),([]:List Bool),([]:List Bool),([]:List Bool),([]:List Bool),([]:List Bool)⟩:State),14)
 else
 bQ ((0:Int)≤x.index∧x.index<(r_1.badBus.length:Int)) (
 some ((⟨r_1.closed,r_1.locked,r_1.badLink,r_1.on_,r_1.badSource,r_1.earthed,(r_1.badBus.set x.index.toNat is)⟩:State),0))
 else
 bif (bT x.kind 2)then
 (aM x.index 0 (IntKind.wrap .i64 ((r_1.badSource.length:Int) - 1))).bind fun r_3=>
 bif (!r_3)then
 some ((⟨([]:List Bool),([]:List Bool),([]:List Bool),([]:List Bool),([]:List Bool),([]:List Bool),([]:List Bool)⟩:State),14)
 else
 bQ ((0:Int)≤x.index∧x.index<(r_1.badSource.length:Int)) (
 some ((⟨r_1.closed,r_1.locked,r_1.badLink,r_1.on_,(r_1.badSource.set x.index.toNat is),r_1.earthed,r_1.badBus⟩:State),0))
 else
 bif (bT x.kind 3)then
 (aM x.index 0 (IntKind.wrap .i64 ((r_1.badLink.length:Int) - 1))).bind fun r_4=>
 bif (!r_4)then
 some ((⟨([]:List Bool),([]:List Bool),([]:List Bool),([]:List Bool),([]:List Bool),([]:List Bool),([]:List Bool)⟩:State),14)
 else
 bQ ((0:Int)≤x.index∧x.index<(r_1.badLink.length:Int)) (
 some ((⟨r_1.closed,r_1.locked,(r_1.badLink.set x.index.toNat is),r_1.on_,r_1.badSource,r_1.earthed,r_1.badBus⟩:State),0))
 else
 (aM x.index 0 (-1)).bind fun r_5=>
 bif (!r_5)then
 some ((⟨([]:List Bool),([]:List Bool),([]:List Bool),([]:List Bool),([]:List Bool),([]:List Bool),([]:List Bool)⟩:State),14)
 else
 none
def oJ (p:ai) (s_:State) (x:Part):Option (State × Int):=
 (jb p s_ x true).bind fun r_=>
 some (r_.1,r_.2)
def gG (p:ai) (parts:(List Part)):((List Bool) × (List Bool) × (List Bool) × (List Bool) × (List Bool) × (List Bool) × (List Bool) × Int)→Option (aW ((List Bool) × (List Bool) × (List Bool) × (List Bool) × (List Bool) × (List Bool) × (List Bool) × Int) (Ex ((List Bool) × (List Bool) × (List Bool) × (List Bool) × (List Bool) × (List Bool) × (List Bool)) (State × Int))):=
 fun zz=>match zz with
 |(s0,s1,s2,s3,s4,s5,s6,t26)=>
 bif (decide (t26<(parts.length:Int)))then
 bQ ((0:Int)≤t26∧t26<(parts.length:Int)) (
 (oJ p (⟨s0,s1,s2,s3,s4,s5,s6⟩:State) (at' parts t26.toNat)).bind fun r_1=>
 bif (!decide (r_1.2=0))then
 some (.done (.ret ((⟨([]:List Bool),([]:List Bool),([]:List Bool),([]:List Bool),([]:List Bool),([]:List Bool),([]:List Bool)⟩:State),r_1.2)))
 else
 some (.next (r_1.1.closed,r_1.1.locked,r_1.1.badLink,r_1.1.on_,r_1.1.badSource,r_1.1.earthed,r_1.1.badBus,(IntKind.wrap .i64 (t26+1)))))
 else
 some (.done (.brk (s0,s1,s2,s3,s4,s5,s6)))
def jS (p:ai) (s_:State) (l:(List Transfer)) (parts:(List Part)):Option (State × Int):=
 (eP p s_ l).bind fun r_=>
 bif (!decide (r_=0))then
 some ((⟨([]:List Bool),([]:List Bool),([]:List Bool),([]:List Bool),([]:List Bool),([]:List Bool),([]:List Bool)⟩:State),r_)
 else
 Option.bind (aC (gG p parts) FUEL (s_.closed,s_.locked,s_.badLink,s_.on_,s_.badSource,s_.earthed,s_.badBus,0)) fun o=>match o with
 | .ret v=>some v
 | .brk (s01,s11,s21,s31,s41,s51,s61)=>
 (dK p (⟨s01,s11,s21,s31,s41,s51,s61⟩:State) l).bind fun r_2=>
 some (r_2.1,r_2.2.2)
def nH (p:ai) (s_:State) (rack:Int):Option Int:=
 (dh p s_).bind fun r_=>
 bif (!decide (r_=0))then
 some r_
 else
 bif (bif (decide (rack<0))then true else(decide ((p.racks.length:Int)≤rack)))then
 some 13
 else
 some 0
def BI (p:ai) (t24:Int):((List Part) × Int)→Option (aW ((List Part) × Int) (Ex (List Part) (aW ((List Part) × Int) (Ex (List Part) ((List Part) × Int))))):=
 fun zz=>match zz with
 |(out2,t30)=>
 bif (decide (t30<(at' [p.buses,(p.sources.length:Int),(p.links.length:Int)] t24.toNat)))then
 bQ (((out2.length+[(⟨(IntKind.wrap .i64 (t24+1)),t30⟩:Part)].length)*16≤140737488355328)∧(out2.length+[(⟨(IntKind.wrap .i64 (t24+1)),t30⟩:Part)].length≤4611686018427387904)) (
 some (.next ((out2++[(⟨(IntKind.wrap .i64 (t24+1)),t30⟩:Part)]),(IntKind.wrap .i64 (t30+1)))))
 else
 some (.done (.brk out2))
def Bv (p:ai):((List Part) × Int)→Option (aW ((List Part) × Int) (Ex (List Part) ((List Part) × Int))):=
 fun zz=>match zz with
 |(out,t24)=>
 bif (decide (t24<([p.buses,(p.sources.length:Int),(p.links.length:Int)].length:Int)))then
 bQ ((0:Int)≤t24∧t24<([p.buses,(p.sources.length:Int),(p.links.length:Int)].length:Int)) (
 Option.bind (aC (BI p t24) FUEL (out,0)) fun o=>match o with
 | .ret v=>some v
 | .brk out3=>
 some (.next (out3,(IntKind.wrap .i64 (t24+1)))))
 else
 some (.done (.brk out))
def uq (p:ai):Option ((List Part) × Int):=
 (l8 p).bind fun r_=>
 bif (!decide (r_=0))then
 some (([]:List Part),r_)
 else
 Option.bind (aC (Bv p) FUEL (([]:List Part),0)) fun o=>match o with
 | .ret v=>some v
 | .brk out1=>
 some (out1,0)
def eu (a:Int) (b:Int) (graph:Graph):Option Graph:=
 bQ ((((aX a graph.arcs.e0).length+[b].length)*8≤140737488355328)∧((aX a graph.arcs.e0).length+[b].length≤4611686018427387904)) (
 some (⟨graph.parts,(⟨(jF a ((aX a graph.arcs.e0)++[b]) graph.arcs.e0),graph.arcs.e1⟩:aB)⟩:Graph))
def xk (s_:(List Part)) (v_:Part):Int→Option (aW Int (Ex Unit Int)):=
 fun t8=>
 bif (decide (t8<(s_.length:Int)))then
 bQ ((0:Int)≤t8∧t8<(s_.length:Int)) (
 bif ((decide (v_.kind=((at' s_ t8.toNat).kind))) && ((decide (v_.index=((at' s_ t8.toNat).index))) && true))then
 some (.done (.ret t8))
 else
 some (.next (IntKind.wrap .i64 (t8+1))))
 else
 some (.done (.brk ()))
def sQ (s_:(List Part)) (v_:Part):Option Int:=
 Option.bind (aC (xk s_ v_) FUEL (0)) fun o=>match o with
 | .ret v=>some v
 | .brk _=>
 some (-1)
def d9 (kz:Int) (i:Int) (graph:Graph):Option Int:=
 (sQ graph.parts (⟨kz,i⟩:Part)).bind fun r_=>
 some r_
def wL (r_:((List Part) × Int)):((List (Int × (List Int))) × Int)→Option (aW ((List (Int × (List Int))) × Int) (Ex (List (Int × (List Int))) Graph)):=
 fun zz=>match zz with
 |(g01,t41)=>
 bif (decide (t41<(r_.1.length:Int)))then
 (eu (IntKind.wrap .i64 ((2:Int)*t41)) (IntKind.wrap .i64 ((IntKind.wrap .i64 ((2:Int)*t41))+1)) (⟨r_.1,(⟨g01,([]:(List (Int × (List Int))))⟩:aB)⟩:Graph)).bind fun r_1=>
 some (.next (r_1.arcs.e0,(IntKind.wrap .i64 (t41+1))))
 else
 some (.done (.brk g01))
def wM (p:ai) (s_:State) (r_:((List Part) × Int)):((List (Int × (List Int))) × Int)→Option (aW ((List (Int × (List Int))) × Int) (Ex (List (Int × (List Int))) Graph)):=
 fun zz=>match zz with
 |(g012,t55)=>
 bif (decide (t55<(p.sources.length:Int)))then
 bQ ((0:Int)≤t55∧t55<(p.sources.length:Int)) (
 bQ (((0:Int)≤t55∧t55<(s_.on_.length:Int))∧(gB [((at' s_.on_ t55.toNat),true)]=true→(0:Int)≤t55∧t55<(s_.badSource.length:Int))∧(gB [((bif (at' s_.on_ t55.toNat)then(!(at' s_.badSource t55.toNat))else false),true)]=true→(0:Int)≤(at' p.sources t55.toNat).bus∧(at' p.sources t55.toNat).bus<(s_.badBus.length:Int))) (
 bif (bif (bif (at' s_.on_ t55.toNat)then(!(at' s_.badSource t55.toNat))else false)then(!(at' s_.badBus (((at' p.sources t55.toNat).bus).toNat)))else false)then
 (d9 2 t55 (⟨r_.1,(⟨g012,([]:(List (Int × (List Int))))⟩:aB)⟩:Graph)).bind fun r_2=>
 (eu (-1) (IntKind.wrap .i64 ((2:Int)*r_2)) (⟨r_.1,(⟨g012,([]:(List (Int × (List Int))))⟩:aB)⟩:Graph)).bind fun r_3=>
 (d9 1 ((at' p.sources t55.toNat).bus) (⟨r_.1,(⟨r_3.arcs.e0,([]:(List (Int × (List Int))))⟩:aB)⟩:Graph)).bind fun r_4=>
 (eu (IntKind.wrap .i64 ((IntKind.wrap .i64 ((2:Int)*r_2))+1)) (IntKind.wrap .i64 ((2:Int)*r_4)) (⟨r_.1,(⟨r_3.arcs.e0,([]:(List (Int × (List Int))))⟩:aB)⟩:Graph)).bind fun r_5=>
 some (.next (r_5.arcs.e0,(IntKind.wrap .i64 (t55+1))))
 else
 some (.next (g012,(IntKind.wrap .i64 (t55+1))))))
 else
 some (.done (.brk g012))
def wN (p:ai) (r_:((List Part) × Int)) (t103:Int) (r_6:Int):((List (Int × (List Int))) × Int)→Option (aW ((List (Int × (List Int))) × Int) (Ex (List (Int × (List Int))) (aW ((List (Int × (List Int))) × Int) (Ex (List (Int × (List Int))) Graph)))):=
 fun zz=>match zz with
 |(g016,t145)=>
 bif (decide (t145<2))then
 bQ ((0:Int)≤t145∧t145<((2:Nat):Int)) (
 (d9 1 (at' [(at' p.links t103.toNat).a,(at' p.links t103.toNat).b] t145.toNat) (⟨r_.1,(⟨g016,([]:(List (Int × (List Int))))⟩:aB)⟩:Graph)).bind fun r_7=>
 (eu (IntKind.wrap .i64 ((IntKind.wrap .i64 ((2:Int)*r_7))+1)) (IntKind.wrap .i64 ((2:Int)*r_6)) (⟨r_.1,(⟨g016,([]:(List (Int × (List Int))))⟩:aB)⟩:Graph)).bind fun r_8=>
 (d9 1 (at' [(at' p.links t103.toNat).a,(at' p.links t103.toNat).b] t145.toNat) (⟨r_.1,(⟨r_8.arcs.e0,([]:(List (Int × (List Int))))⟩:aB)⟩:Graph)).bind fun r_9=>
 (eu (IntKind.wrap .i64 ((IntKind.wrap .i64 ((2:Int)*r_6))+1)) (IntKind.wrap .i64 ((2:Int)*r_9)) (⟨r_.1,(⟨r_8.arcs.e0,([]:(List (Int × (List Int))))⟩:aB)⟩:Graph)).bind fun r_10=>
 some (.next (r_10.arcs.e0,(IntKind.wrap .i64 (t145+1)))))
 else
 some (.done (.brk g016))
def wO (p:ai) (s_:State) (r_:((List Part) × Int)):((List (Int × (List Int))) × Int)→Option (aW ((List (Int × (List Int))) × Int) (Ex (List (Int × (List Int))) Graph)):=
 fun zz=>match zz with
 |(g014,t103)=>
 bif (decide (t103<(p.links.length:Int)))then
 bQ ((0:Int)≤t103∧t103<(p.links.length:Int)) (
 bQ (((0:Int)≤t103∧t103<(s_.closed.length:Int))∧(gB [((!(at' s_.closed t103.toNat)),false)]=true→(0:Int)≤t103∧t103<(s_.badLink.length:Int))∧(gB [((bif (!(at' s_.closed t103.toNat))then true else(at' s_.badLink t103.toNat)),false)]=true→(0:Int)≤(at' p.links t103.toNat).a∧(at' p.links t103.toNat).a<(s_.badBus.length:Int))∧(gB [((bif (bif (!(at' s_.closed t103.toNat))then true else(at' s_.badLink t103.toNat))then true else(at' s_.badBus (((at' p.links t103.toNat).a).toNat))),false)]=true→(0:Int)≤(at' p.links t103.toNat).b∧(at' p.links t103.toNat).b<(s_.badBus.length:Int))) (
 bif (bif (bif (bif (!(at' s_.closed t103.toNat))then true else(at' s_.badLink t103.toNat))then true else(at' s_.badBus (((at' p.links t103.toNat).a).toNat)))then true else(at' s_.badBus (((at' p.links t103.toNat).b).toNat)))then
 some (.next (g014,(IntKind.wrap .i64 (t103+1))))
 else
 (d9 3 t103 (⟨r_.1,(⟨g014,([]:(List (Int × (List Int))))⟩:aB)⟩:Graph)).bind fun r_6=>
 Option.bind (aC (wN p r_ t103 r_6) FUEL (g014,0)) fun o=>match o with
 | .ret v=>some v
 | .brk g017=>
 some (.next (g017,(IntKind.wrap .i64 (t103+1))))))
 else
 some (.done (.brk g014))
def wD (p:ai) (s_:State) (rack:Int) (r_:((List Part) × Int)):((List (Int × (List Int))) × Int)→Option (aW ((List (Int × (List Int))) × Int) (Ex (List (Int × (List Int))) Graph)):=
 fun zz=>match zz with
 |(g018,t174)=>
 bif (decide (t174<2))then
 bQ ((0:Int)≤t174∧t174<((2:Nat):Int)) (
 bQ (gB [((decide (0≤(at' [((at' p.racks rack.toNat).feeds).e0,((at' p.racks rack.toNat).feeds).e1] t174.toNat))),true)]=true→(0:Int)≤(at' [((at' p.racks rack.toNat).feeds).e0,((at' p.racks rack.toNat).feeds).e1] t174.toNat)∧(at' [((at' p.racks rack.toNat).feeds).e0,((at' p.racks rack.toNat).feeds).e1] t174.toNat)<(s_.badBus.length:Int)) (
 bif (bif (decide (0≤(at' [((at' p.racks rack.toNat).feeds).e0,((at' p.racks rack.toNat).feeds).e1] t174.toNat)))then(!(at' s_.badBus ((at' [((at' p.racks rack.toNat).feeds).e0,((at' p.racks rack.toNat).feeds).e1] t174.toNat).toNat)))else false)then
 (d9 1 (at' [((at' p.racks rack.toNat).feeds).e0,((at' p.racks rack.toNat).feeds).e1] t174.toNat) (⟨r_.1,(⟨g018,([]:(List (Int × (List Int))))⟩:aB)⟩:Graph)).bind fun r_11=>
 (eu (IntKind.wrap .i64 ((IntKind.wrap .i64 ((2:Int)*r_11))+1)) (-2) (⟨r_.1,(⟨g018,([]:(List (Int × (List Int))))⟩:aB)⟩:Graph)).bind fun r_12=>
 some (.next (r_12.arcs.e0,(IntKind.wrap .i64 (t174+1))))
 else
 some (.next (g018,(IntKind.wrap .i64 (t174+1))))))
 else
 some (.done (.brk g018))
def rR (p:ai) (s_:State) (rack:Int):Option Graph:=
 (uq p).bind fun r_=>
 Option.bind (aC (wL r_) FUEL (([]:(List (Int × (List Int)))),0)) fun o=>match o with
 | .ret v=>some v
 | .brk g011=>
 Option.bind (aC (wM p s_ r_) FUEL (g011,0)) fun o=>match o with
 | .ret v=>some v
 | .brk g013=>
 Option.bind (aC (wO p s_ r_) FUEL (g013,0)) fun o=>match o with
 | .ret v=>some v
 | .brk g015=>
 bQ ((0:Int)≤rack∧rack<(p.racks.length:Int)) (
 Option.bind (aC (wD p s_ rack r_) FUEL (g015,0)) fun o=>match o with
 | .ret v=>some v
 | .brk g019=>
 some (⟨r_.1,(⟨g019,([]:(List (Int × (List Int))))⟩:aB)⟩:Graph))
def sS (s_:(List Int)) (s_nn:Bool):Option (List Int):=
 bif (!s_nn)then
 some ([]:List Int)
 else
 bQ (((([]:List Int).length+s_.length)*8≤140737488355328)∧(([]:List Int).length+s_.length≤4611686018427387904)) (
 some (([]:List Int)++s_))
def pU (s:(List Int)):Option (List Int):=sS s true
def xR (s_:(List Int)) (v_:Int):Int→Option (aW Int (Ex Unit Int)):=
 fun t8=>
 bif (decide (t8<(s_.length:Int)))then
 bQ ((0:Int)≤t8∧t8<(s_.length:Int)) (
 bif (decide (v_=(at' s_ t8.toNat)))then
 some (.done (.ret t8))
 else
 some (.next (IntKind.wrap .i64 (t8+1))))
 else
 some (.done (.brk ()))
def j4 (s_:(List Int)) (v_:Int):Option Int:=
 Option.bind (aC (xR s_ v_) FUEL (0)) fun o=>match o with
 | .ret v=>some v
 | .brk _=>
 some (-1)
def pJ (s:List Int) (i j:Int):Option (List Int):=Tk s i j
def mG (a:Int) (b:Int) (from_:Int) (graph:Graph):Option Graph:=
 bif (decide (from_=0))then
 (j4 (aX a graph.arcs.e0) b).bind fun r_=>
 (pJ (aX a graph.arcs.e0) r_ (IntKind.wrap .i64 (r_+1))).bind fun r_1=>
 bQ ((((aX a graph.arcs.e1).length+[b].length)*8≤140737488355328)∧((aX a graph.arcs.e1).length+[b].length≤4611686018427387904)) (
 some (⟨graph.parts,(⟨(jF a r_1 graph.arcs.e0),(jF a ((aX a graph.arcs.e1)++[b]) graph.arcs.e1)⟩:aB)⟩:Graph))
 else
 bQ (from_=1) (
 (j4 (aX a graph.arcs.e1) b).bind fun r_2=>
 (pJ (aX a graph.arcs.e1) r_2 (IntKind.wrap .i64 (r_2+1))).bind fun r_3=>
 bQ ((((aX a graph.arcs.e0).length+[b].length)*8≤140737488355328)∧((aX a graph.arcs.e0).length+[b].length≤4611686018427387904)) (
 some (⟨graph.parts,(⟨(jF a ((aX a graph.arcs.e0)++[b]) graph.arcs.e0),(jF a r_3 graph.arcs.e1)⟩:aB)⟩:Graph)))
def kM (s_:(List Int)) (v_:Int):Option Bool:=
 (j4 s_ v_).bind fun r_=>
 some (decide (0≤r_))
def rJ (rec:Int→(List (Int × Bool))→Graph→Option (Bool × (List (Int × Bool)) × Graph)) (at_:Int) (graph:Graph) (r_:(List Int)):((List (Int × Bool)) × (List (Int × (List Int))) × (List (Int × (List Int))) × Int)→Option (aW ((List (Int × Bool)) × (List (Int × (List Int))) × (List (Int × (List Int))) × Int) (Ex ((List (Int × Bool)) × (List (Int × (List Int))) × (List (Int × (List Int)))) (Bool × (List (Int × Bool)) × Graph))):=
 fun zz=>match zz with
 |(o0,o01,o02,t23)=>
 bif (decide (t23<(r_.length:Int)))then
 bQ ((0:Int)≤t23∧t23<(r_.length:Int)) (
 bif (!((aV bT (at' r_ t23.toNat) o0).getD false))then
 (rec (at' r_ t23.toNat) o0 (⟨graph.parts,(⟨o01,o02⟩:aB)⟩:Graph)).bind fun r_1=>
 bif r_1.1 then
 (mG at_ (at' r_ t23.toNat) 0 (⟨graph.parts,r_1.2.2.arcs⟩:Graph)).bind fun r_2=>
 some (.done (.ret (true,r_1.2.1,(⟨graph.parts,r_2.arcs⟩:Graph))))
 else
 some (.next (r_1.2.1,r_1.2.2.arcs.e0,r_1.2.2.arcs.e1,(IntKind.wrap .i64 (t23+1))))
 else
 some (.next (o0,o01,o02,(IntKind.wrap .i64 (t23+1)))))
 else
 some (.done (.brk (o0,o01,o02)))
def gM (rec:Int→(List (Int × Bool))→Graph→Option (Bool × (List (Int × Bool)) × Graph)) (at_:Int) (graph:Graph) (o021:(List (Int × (List Int)))):Int × List Int→((List (Int × Bool)) × (List (Int × (List Int))))→Option (aW ((List (Int × Bool)) × (List (Int × (List Int)))) (Ex Empty (Bool × (List (Int × Bool)) × Graph))):=
 fun x=>fun zz=>match zz with
 |(o04,o012)=>
 bif (bif (!((aV bT x.1 o04).getD false))then(!decide (x.1=(-1)))else false)then
 (kM x.2 at_).bind fun r_3=>
 bif r_3 then
 (rec x.1 o04 (⟨graph.parts,(⟨o012,o021⟩:aB)⟩:Graph)).bind fun r_4=>
 bif r_4.1 then
 (mG x.1 at_ 1 (⟨graph.parts,r_4.2.2.arcs⟩:Graph)).bind fun r_5=>
 some (.done (.ret (true,r_4.2.1,(⟨graph.parts,r_5.arcs⟩:Graph))))
 else
 bQ (r_4.2.2.arcs.e1=o021) (
 some (.next (r_4.2.1,r_4.2.2.arcs.e0)))
 else
 some (.next (o04,o012))
 else
 some (.next (o04,o012))
def kJ (at_:Int):Int × List Int→Bool:=
 fun x=> !(decide (x.1= -1)) && nfl (kM x.2 at_)
def jJ (rec:Int→(List (Int × Bool))→Graph→Option (Bool × (List (Int × Bool)) × Graph)) (at_:Int) (o_:(List (Int × Bool))) (graph:Graph):Option (Bool × (List (Int × Bool)) × Graph):=
 bif (decide (at_=(-2)))then
 some (true,o_,graph)
 else
 (pU (aX at_ graph.arcs.e0)).bind fun r_=>
 Option.bind (aC (rJ rec at_ graph r_) FUEL ((fO bT at_ true o_),graph.arcs.e0,graph.arcs.e1,0)) fun o=>match o with
 | .ret v=>some v
 | .brk (o03,o011,o021)=>
 Option.bind (goG o021 (kJ at_) (gM rec at_ graph o021) (o03,o011)) fun o=>match o with
 | .ret v=>some v
 | .brk (o05,o013)=>
 some (false,o05,(⟨graph.parts,(⟨o013,o021⟩:aB)⟩:Graph))
def fF:Nat→Int→(List (Int × Bool))→Graph→Option (Bool × (List (Int × Bool)) × Graph)
 |0,_,_,_=>none
 |n+1,at_,o_,graph=>jJ (fF n) at_ o_ graph
def oh (graph:Graph):Option (Bool × Graph):=
 (fF FUEL (-1) ([]:(List (Int × Bool))) graph).bind fun r_=>
 some (r_.1,(⟨graph.parts,r_.2.2.arcs⟩:Graph))
def wG (graph:Graph):(Int × (List Part))→Option (aW (Int × (List Part)) (Ex (List Part) (aW ((List (List Part)) × Int) (Ex (List (List Part)) (List (List Part)))))):=
 fun zz=>match zz with
 |(at_,way)=>
 bif (!decide (at_=(-2)))then
 bQ ((2≠(0:Int))∧((0:Int)≤(IntKind.wrap .i64 (Int.tdiv at_ 2))∧(IntKind.wrap .i64 (Int.tdiv at_ 2))<(graph.parts.length:Int))∧((way.length+[(at' graph.parts ((IntKind.wrap .i64 (Int.tdiv at_ 2)).toNat))].length)*16≤140737488355328)∧(way.length+[(at' graph.parts ((IntKind.wrap .i64 (Int.tdiv at_ 2)).toNat))].length≤4611686018427387904)) (
 bQ ((0:Int)≤0∧0<(((aV bT (IntKind.wrap .i64 (at_+1)) graph.arcs.e1).getD ([]:List Int)).length:Int)) (
 some (.next ((at' ((aV bT (IntKind.wrap .i64 (at_+1)) graph.arcs.e1).getD ([]:List Int)) 0),(way++[(at' graph.parts ((IntKind.wrap .i64 (Int.tdiv at_ 2)).toNat))])))))
 else
 some (.done (.brk way))
def wC (graph:Graph):((List (List Part)) × Int)→Option (aW ((List (List Part)) × Int) (Ex (List (List Part)) (List (List Part)))):=
 fun zz=>match zz with
 |(out,t14)=>
 bif (decide (t14<(((aV bT (-1) graph.arcs.e1).getD ([]:List Int)).length:Int)))then
 bQ ((0:Int)≤t14∧t14<(((aV bT (-1) graph.arcs.e1).getD ([]:List Int)).length:Int)) (
 Option.bind (aC (wG graph) FUEL ((at' ((aV bT (-1) graph.arcs.e1).getD ([]:List Int)) t14.toNat),([]:List Part))) fun o=>match o with
 | .ret v=>some v
 | .brk way1=>
 bQ (((out.length+[way1].length)*24≤140737488355328)∧(out.length+[way1].length≤4611686018427387904)) (
 some (.next ((out++[way1]),(IntKind.wrap .i64 (t14+1))))))
 else
 some (.done (.brk out))
def qX (graph:Graph):Option (List (List Part)):=
 Option.bind (aC (wC graph) FUEL (([]:List (List Part)),0)) fun o=>match o with
 | .ret v=>some v
 | .brk out1=>
 some out1
def Ci (r_1:Graph):((List (Int × (List Int))) × (List (Int × (List Int))) × Int)→Option (aW ((List (Int × (List Int))) × (List (Int × (List Int))) × Int) (Ex ((List (Int × (List Int))) × (List (Int × (List Int)))) ((List (List Part)) × Int))):=
 fun zz=>match zz with
 |(g1,g2,t21)=>
 bif (decide (t21<2))then
 (oh (⟨r_1.parts,(⟨g1,g2⟩:aB)⟩:Graph)).bind fun r_2=>
 bif (!r_2.1)then
 some (.done (.brk (r_2.2.arcs.e0,r_2.2.arcs.e1)))
 else
 some (.next (r_2.2.arcs.e0,r_2.2.arcs.e1,(IntKind.wrap .i64 (t21+1))))
 else
 some (.done (.brk (g1,g2)))
def AU (p:ai) (s_:State) (rack:Int):Option ((List (List Part)) × Int):=
 (nH p s_ rack).bind fun r_=>
 bif (!decide (r_=0))then
 some (([]:List (List Part)),r_)
 else
 (rR p s_ rack).bind fun r_1=>
 Option.bind (aC (Ci r_1) FUEL (r_1.arcs.e0,r_1.arcs.e1,0)) fun o=>match o with
 | .ret v=>some v
 | .brk (g11,g21)=>
 (qX (⟨r_1.parts,(⟨g11,g21⟩:aB)⟩:Graph)).bind fun r_3=>
 some (r_3,0)
def oH (p:ai) (s_:State) (rack:Int):Option (Int × Int):=
 (AU p s_ rack).bind fun r_=>
 some ((r_.1.length:Int),r_.2)
def jl (p:ai) (r_:((List Bool) × Int)):((List aL) × Int)→Option (aW ((List aL) × Int) (Ex (List aL) ((List aL) × Int))):=
 fun zz=>match zz with
 |(out,t26)=>
 bif (decide (t26<(p.racks.length:Int)))then
 bQ ((0:Int)≤t26∧t26<(p.racks.length:Int)) (
 bQ (gB [((decide (0≤(((at' p.racks t26.toNat).feeds).e0))),true)]=true→(0:Int)≤((at' p.racks t26.toNat).feeds).e0∧((at' p.racks t26.toNat).feeds).e0<(r_.1.length:Int)) (
 bQ (gB [((decide (0≤(((at' p.racks t26.toNat).feeds).e1))),true)]=true→(0:Int)≤((at' p.racks t26.toNat).feeds).e1∧((at' p.racks t26.toNat).feeds).e1<(r_.1.length:Int)) (
 bQ (((out.length+[(⟨(bif (decide (0≤(((at' p.racks t26.toNat).feeds).e0)))then(at' r_.1 ((((at' p.racks t26.toNat).feeds).e0).toNat))else false),(bif (decide (0≤(((at' p.racks t26.toNat).feeds).e1)))then(at' r_.1 ((((at' p.racks t26.toNat).feeds).e1).toNat))else false)⟩:aL)].length)*2≤140737488355328)∧(out.length+[(⟨(bif (decide (0≤(((at' p.racks t26.toNat).feeds).e0)))then(at' r_.1 ((((at' p.racks t26.toNat).feeds).e0).toNat))else false),(bif (decide (0≤(((at' p.racks t26.toNat).feeds).e1)))then(at' r_.1 ((((at' p.racks t26.toNat).feeds).e1).toNat))else false)⟩:aL)].length≤4611686018427387904)) (
 some (.next ((out++[(⟨(bif (decide (0≤(((at' p.racks t26.toNat).feeds).e0)))then(at' r_.1 ((((at' p.racks t26.toNat).feeds).e0).toNat))else false),(bif (decide (0≤(((at' p.racks t26.toNat).feeds).e1)))then(at' r_.1 ((((at' p.racks t26.toNat).feeds).e1).toNat))else false)⟩:aL)]),(IntKind.wrap .i64 (t26+1))))))))
 else
 some (.done (.brk out))
def sU (p:ai) (s_:State):Option ((List aL) × Int):=
 (dA p s_).bind fun r_=>
 bif (!decide (r_.2=0))then
 some (([]:List aL),r_.2)
 else
 Option.bind (aC (jl p r_) FUEL (([]:List aL),0)) fun o=>match o with
 | .ret v=>some v
 | .brk out1=>
 some (out1,0)
def mP (p:ai) (s_:State) (rack:Int):Option Bool:=
 (sU p s_).bind fun r_=>
 bQ (((0:Int)≤rack∧rack<(r_.1.length:Int))∧(gB [((at' r_.1 rack.toNat).e0,false)]=true→(0:Int)≤rack∧rack<(r_.1.length:Int))) (
 some (bif (at' r_.1 rack.toNat).e0 then true else(at' r_.1 rack.toNat).e1))
def xC (s_:State) (x:Part):Option Bool:=
 bQ (((0:Int)≤x.kind∧x.kind<([([]:List Bool),s_.badBus,s_.badSource,s_.badLink].length:Int))∧((0:Int)≤x.index∧x.index<((at' [([]:List Bool),s_.badBus,s_.badSource,s_.badLink] x.kind.toNat).length:Int))) (
 some (at' (at' [([]:List Bool),s_.badBus,s_.badSource,s_.badLink] x.kind.toNat) x.index.toNat))
def pI (x:Part) (x1:(List Bool)) (x11:(List Bool)) (x12:(List Bool)) (x13:(List Bool)) (x14:(List Bool)) (x15:(List Bool)) (x16:(List Bool)):Option Bool:=
 (xC (⟨x1,x11,x12,x13,x14,x15,x16⟩:State) x).bind fun r_=>
 some r_
def tq (s_:(List Part)) (f_:(List Bool)) (f_1:(List Bool)) (f_2:(List Bool)) (f_3:(List Bool)) (f_4:(List Bool)) (f_5:(List Bool)) (f_6:(List Bool)):Int→Option (aW Int (Ex Unit Int)):=
 fun t8=>
 bif (decide (t8<(s_.length:Int)))then
 (pI (at' s_ t8.toNat) f_ f_1 f_2 f_3 f_4 f_5 f_6).bind fun r_=>
 bQ ((0:Int)≤t8∧t8<(s_.length:Int)) (
 bif r_ then
 some (.done (.ret t8))
 else
 some (.next (IntKind.wrap .i64 (t8+1))))
 else
 some (.done (.brk ()))
def oo (s_:(List Part)) (f_:(List Bool)) (f_1:(List Bool)) (f_2:(List Bool)) (f_3:(List Bool)) (f_4:(List Bool)) (f_5:(List Bool)) (f_6:(List Bool)):Option Int:=
 Option.bind (aC (tq s_ f_ f_1 f_2 f_3 f_4 f_5 f_6) FUEL (0)) fun o=>match o with
 | .ret v=>some v
 | .brk _=>
 some (-1)
def sK (del:(List Bool)) (del1:(List Bool)) (del2:(List Bool)) (del3:(List Bool)) (del4:(List Bool)) (del5:(List Bool)) (del6:(List Bool)):((List Part) × Int × Int)→Option (aW ((List Part) × Int × Int) (Ex ((List Part) × Int) (List Part))):=
 fun zz=>match zz with
 |(o_,i,j)=>
 bif (decide (j<(o_.length:Int)))then
 bQ ((0:Int)≤j∧j<(o_.length:Int)) (
 (pI (at' o_ j.toNat) del del1 del2 del3 del4 del5 del6).bind fun r_1=>
 bif (!r_1)then
 bQ ((0:Int)≤i∧i<(o_.length:Int)) (
 some (.next ((o_.set i.toNat (at' o_ j.toNat)),(IntKind.wrap .i64 (i+1)),(IntKind.wrap .i64 (j+1)))))
 else
 some (.next (o_,i,(IntKind.wrap .i64 (j+1)))))
 else
 some (.done (.brk (o_,i)))
def nV (s_:(List Part)) (del:(List Bool)) (del1:(List Bool)) (del2:(List Bool)) (del3:(List Bool)) (del4:(List Bool)) (del5:(List Bool)) (del6:(List Bool)):Option (List Part):=
 (oo s_ del del1 del2 del3 del4 del5 del6).bind fun r_=>
 bif (decide (r_=(-1)))then
 some s_
 else
 Option.bind (aC (sK del del1 del2 del3 del4 del5 del6) FUEL (s_,r_,(IntKind.wrap .i64 (r_+1)))) fun o=>match o with
 | .ret v=>some v
 | .brk (o_1,i1)=>
 bQ ((0:Int)≤i1∧i1≤(o_1.length:Int)) (
 bQ ((0:Int)≤i1∧i1≤((Ao o_1 i1.toNat (⟨0,0⟩:Part)).length:Int)) (
 some ((Ao o_1 i1.toNat (⟨0,0⟩:Part)).take i1.toNat)))
def uD (p:ai) (s_:State):Option (List Part):=
 (uq p).bind fun r_=>
 (nV r_.1 s_.closed s_.locked s_.badLink s_.on_ s_.badSource s_.earthed s_.badBus).bind fun r_1=>
 some r_1
def mr (x:Part) (x1:Int) (x11:(List Source)) (x12:(List Link)) (x13:(List aP)) (x2:(List Bool)) (x21:(List Bool)) (x22:(List Bool)) (x23:(List Bool)) (x24:(List Bool)) (x25:(List Bool)) (x26:(List Bool)) (x3:Int):Option Bool:=
 (oJ (⟨x1,x11,x12,x13⟩:ai) (⟨x2,x21,x22,x23,x24,x25,x26⟩:State) x).bind fun r_=>
 (mP (⟨x1,x11,x12,x13⟩:ai) r_.1 x3).bind fun r_1=>
 some r_1
def qx (s_:(List Part)) (f_:Int) (f_1:(List Source)) (f_2:(List Link)) (f_3:(List aP)) (f_4:(List Bool)) (f_5:(List Bool)) (f_6:(List Bool)) (f_7:(List Bool)) (f_8:(List Bool)) (f_9:(List Bool)) (f_10:(List Bool)) (f_11:Int):Int→Option (aW Int (Ex Unit Int)):=
 fun t8=>
 bif (decide (t8<(s_.length:Int)))then
 (mr (at' s_ t8.toNat) f_ f_1 f_2 f_3 f_4 f_5 f_6 f_7 f_8 f_9 f_10 f_11).bind fun r_=>
 bQ ((0:Int)≤t8∧t8<(s_.length:Int)) (
 bif r_ then
 some (.done (.ret t8))
 else
 some (.next (IntKind.wrap .i64 (t8+1))))
 else
 some (.done (.brk ()))
def mo (s_:(List Part)) (f_:Int) (f_1:(List Source)) (f_2:(List Link)) (f_3:(List aP)) (f_4:(List Bool)) (f_5:(List Bool)) (f_6:(List Bool)) (f_7:(List Bool)) (f_8:(List Bool)) (f_9:(List Bool)) (f_10:(List Bool)) (f_11:Int):Option Int:=
 Option.bind (aC (qx s_ f_ f_1 f_2 f_3 f_4 f_5 f_6 f_7 f_8 f_9 f_10 f_11) FUEL (0)) fun o=>match o with
 | .ret v=>some v
 | .brk _=>
 some (-1)
def zK (a:(List Part)) (b:(List Part)):Int→Option (aW Int (Ex Unit Bool)):=
 fun i=>
 bif (decide (i<(a.length:Int)))then
 bQ (((0:Int)≤i∧i<(a.length:Int))∧((0:Int)≤i∧i<(b.length:Int))) (
 bif (!((decide (((at' a i.toNat).kind)=((at' b i.toNat).kind))) && ((decide (((at' a i.toNat).index)=((at' b i.toNat).index))) && true)))then
 some (.done (.ret false))
 else
 some (.next (IntKind.wrap .i64 (i+1))))
 else
 some (.done (.brk ()))
def wh (a:(List Part)) (b:(List Part)):Option Bool:=
 bif (!decide ((a.length:Int)=(b.length:Int)))then
 some false
 else
 Option.bind (aC (zK a b) FUEL (0)) fun o=>match o with
 | .ret v=>some v
 | .brk _=>
 some true
def ko (a:Int) (b:Int):Option Link:=
 some (⟨a,b,3,500,10,([]:List tY)⟩:Link)
def pO (sync:Int):Option (ai × State):=
 (ko 0 2).bind fun r_=>
 (ko 1 3).bind fun r_1=>
 (ko 2 3).bind fun r_2=>
 bQ (((0:Int)≤3)∧((1:Int)*3≤281474976710656)∧((3:Int)≤9223372036854775807)∧((0:Int)≤2)∧((1:Int)*2≤281474976710656)∧((2:Int)≤9223372036854775807)∧((0:Int)≤4)∧((1:Int)*4≤281474976710656)∧((4:Int)≤9223372036854775807)) (
 some ((⟨4,[(⟨0,1,500,sync,20⟩:Source),(⟨1,1,500,sync,20⟩:Source)],[r_,r_1,r_2],[(⟨(⟨2,3⟩:ah),100,2⟩:aP)]⟩:ai),(⟨[true,true,false],(List.replicate 3 (false:Bool)),(List.replicate 3 (false:Bool)),[true,true],(List.replicate 2 (false:Bool)),(List.replicate 4 (false:Bool)),(List.replicate 4 (false:Bool))⟩:State)))
def iY (a:(List Bool)) (b:(List Bool)):Int→Option (aW Int (Ex Unit Bool)):=
 fun i=>
 bif (decide (i<(a.length:Int)))then
 bQ (((0:Int)≤i∧i<(a.length:Int))∧((0:Int)≤i∧i<(b.length:Int))) (
 bif (!((at' a i.toNat)==(at' b i.toNat)))then
 some (.done (.ret false))
 else
 some (.next (IntKind.wrap .i64 (i+1))))
 else
 some (.done (.brk ()))
def bE (a:(List Bool)) (b:(List Bool)):Option Bool:=
 bif (!decide ((a.length:Int)=(b.length:Int)))then
 some false
 else
 Option.bind (aC (iY a b) FUEL (0)) fun o=>match o with
 | .ret v=>some v
 | .brk _=>
 some true
def rZ (del:Int) (del1:(List Source)) (del2:(List Link)) (del3:(List aP)) (del4:(List Bool)) (del5:(List Bool)) (del6:(List Bool)) (del7:(List Bool)) (del8:(List Bool)) (del9:(List Bool)) (del10:(List Bool)) (del11:Int):((List Part) × Int × Int)→Option (aW ((List Part) × Int × Int) (Ex ((List Part) × Int) (List Part))):=
 fun zz=>match zz with
 |(o_,i,j)=>
 bif (decide (j<(o_.length:Int)))then
 bQ ((0:Int)≤j∧j<(o_.length:Int)) (
 (mr (at' o_ j.toNat) del del1 del2 del3 del4 del5 del6 del7 del8 del9 del10 del11).bind fun r_1=>
 bif (!r_1)then
 bQ ((0:Int)≤i∧i<(o_.length:Int)) (
 some (.next ((o_.set i.toNat (at' o_ j.toNat)),(IntKind.wrap .i64 (i+1)),(IntKind.wrap .i64 (j+1)))))
 else
 some (.next (o_,i,(IntKind.wrap .i64 (j+1)))))
 else
 some (.done (.brk (o_,i)))
def nu (s_:(List Part)) (del:Int) (del1:(List Source)) (del2:(List Link)) (del3:(List aP)) (del4:(List Bool)) (del5:(List Bool)) (del6:(List Bool)) (del7:(List Bool)) (del8:(List Bool)) (del9:(List Bool)) (del10:(List Bool)) (del11:Int):Option (List Part):=
 (mo s_ del del1 del2 del3 del4 del5 del6 del7 del8 del9 del10 del11).bind fun r_=>
 bif (decide (r_=(-1)))then
 some s_
 else
 Option.bind (aC (rZ del del1 del2 del3 del4 del5 del6 del7 del8 del9 del10 del11) FUEL (s_,r_,(IntKind.wrap .i64 (r_+1)))) fun o=>match o with
 | .ret v=>some v
 | .brk (o_1,i1)=>
 bQ ((0:Int)≤i1∧i1≤(o_1.length:Int)) (
 bQ ((0:Int)≤i1∧i1≤((Ao o_1 i1.toNat (⟨0,0⟩:Part)).length:Int)) (
 some ((Ao o_1 i1.toNat (⟨0,0⟩:Part)).take i1.toNat)))
def lM (p:ai) (s_:State) (rack:Int):Option ((List Part) × Int):=
 (nH p s_ rack).bind fun r_=>
 bif (!decide (r_=0))then
 some (([]:List Part),r_)
 else
 (mP p s_ rack).bind fun r_1=>
 bif (!r_1)then
 some (([]:List Part),0)
 else
 (uD p s_).bind fun r_2=>
 (nu r_2 p.buses p.sources p.links p.racks s_.closed s_.locked s_.badLink s_.on_ s_.badSource s_.earthed s_.badBus rack).bind fun r_3=>
 some (r_3,0)
def oK:Option Bool:=
 (pO 1).bind fun r_=>
 (oH r_.1 r_.2 0).bind fun r_1=>
 (lM r_.1 r_.2 0).bind fun r_2=>
 bif (bif (bif (bif (!decide (r_1.2=0))then true else(!decide (r_2.2=0)))then true else(!decide (r_1.1=2)))then true else(!decide ((r_2.1.length:Int)=0)))then
 some false
 else
 bQ ((0:Int)≤1∧1<(r_.2.closed.length:Int)) (
 (oH r_.1 (⟨(r_.2.closed.set 1 false),r_.2.locked,r_.2.badLink,r_.2.on_,r_.2.badSource,r_.2.earthed,r_.2.badBus⟩:State) 0).bind fun r_3=>
 (lM r_.1 (⟨(r_.2.closed.set 1 false),r_.2.locked,r_.2.badLink,r_.2.on_,r_.2.badSource,r_.2.earthed,r_.2.badBus⟩:State) 0).bind fun r_4=>
 bif (bif (bif (!decide (r_3.2=0))then true else(!decide (r_4.2=0)))then true else(!decide (r_3.1=1)))then
 some false
 else
 (wh r_4.1 [(⟨1,0⟩:Part),(⟨1,2⟩:Part),(⟨2,0⟩:Part),(⟨3,0⟩:Part)]).bind fun r_5=>
 bif (!r_5)then
 some false
 else
 bQ ((0:Int)≤1∧1<((r_.2.closed.set 1 false).length:Int)) (
 (jS r_.1 (⟨((r_.2.closed.set 1 false).set 1 true),r_.2.locked,r_.2.badLink,r_.2.on_,r_.2.badSource,r_.2.earthed,r_.2.badBus⟩:State) [(⟨3,1,2⟩:Transfer)] [(⟨2,1⟩:Part)]).bind fun r_6=>
 bif (!decide (r_6.2=0))then
 some false
 else
 (bE r_6.1.closed [true,false,true]).bind fun r_7=>
 bif (!r_7)then
 some false
 else
 (pO 0).bind fun r_8=>
 bQ ((0:Int)≤1∧1<(r_8.2.closed.length:Int)) (
 (dK r_8.1 (⟨(r_8.2.closed.set 1 false),r_8.2.locked,r_8.2.badLink,r_8.2.on_,r_8.2.badSource,r_8.2.earthed,r_8.2.badBus⟩:State) [(⟨3,(-1),2⟩:Transfer)]).bind fun r_9=>
 (dK r_8.1 (⟨[false,false,true],r_8.2.locked,r_8.2.badLink,r_8.2.on_,r_8.2.badSource,r_8.2.earthed,r_8.2.badBus⟩:State) [(⟨3,2,1⟩:Transfer),(⟨2,(-1),0⟩:Transfer)]).bind fun r_10=>
 bQ ((0:Int)≤0∧0<(r_8.2.badLink.length:Int)) (
 (dK r_8.1 (⟨[true,false,false],r_8.2.locked,(r_8.2.badLink.set 0 true),r_8.2.on_,r_8.2.badSource,r_8.2.earthed,r_8.2.badBus⟩:State) [(⟨2,(-1),2⟩:Transfer),(⟨3,(-1),1⟩:Transfer)]).bind fun r_11=>
 bif (bif (bif (decide (r_9.2.2=0))then(decide (r_10.2.2=0))else false)then(decide (r_11.2.2=0))else false)then
 (fw r_9.2.1 [0]).bind fun r_12=>
 bif (bif (bif r_12 then(decide ((r_9.1.closed.length:Int)=3))else false)then(at' r_9.1.closed 2)else false)then
 (fw r_10.2.1 [0,1]).bind fun r_13=>
 bif r_13 then
 (bE r_10.1.closed [true,true,false]).bind fun r_14=>
 bif r_14 then
 (fw r_11.2.1 [1,0]).bind fun r_15=>
 bif r_15 then
 (bE r_11.1.closed [true,true,true]).bind fun r_16=>
 bQ (gB [((bif r_12 then(decide ((r_9.1.closed.length:Int)=3))else false),true)]=true→(0:Int)≤2∧2<(r_9.1.closed.length:Int)) (
 some r_16)
 else
 bQ (gB [((bif r_12 then(decide ((r_9.1.closed.length:Int)=3))else false),true)]=true→(0:Int)≤2∧2<(r_9.1.closed.length:Int)) (
 some false)
 else
 bQ (gB [((bif r_12 then(decide ((r_9.1.closed.length:Int)=3))else false),true)]=true→(0:Int)≤2∧2<(r_9.1.closed.length:Int)) (
 some false)
 else
 bQ (gB [((bif r_12 then(decide ((r_9.1.closed.length:Int)=3))else false),true)]=true→(0:Int)≤2∧2<(r_9.1.closed.length:Int)) (
 some false)
 else
 bQ (gB [((bif r_12 then(decide ((r_9.1.closed.length:Int)=3))else false),true)]=true→(0:Int)≤2∧2<(r_9.1.closed.length:Int)) (
 some false)
 else
 some false))))
def bZ (l:(List Bool)):Option (List Bool):=
 bQ ((l.length*1≤140737488355328)∧(l.length≤4611686018427387904)) (
 some l)
def fI (x:State):Option State:=
 (bZ x.closed).bind fun r_=>
 (bZ x.locked).bind fun r_1=>
 (bZ x.badLink).bind fun r_2=>
 (bZ x.on_).bind fun r_3=>
 (bZ x.badSource).bind fun r_4=>
 (bZ x.earthed).bind fun r_5=>
 (bZ x.badBus).bind fun r_6=>
 some (⟨r_,r_1,r_2,r_3,r_4,r_5,r_6⟩:State)
def kF (l:(List Transfer)):((List Transfer) × Int)→Option (aW ((List Transfer) × Int) (Ex (List Transfer) (List Transfer))):=
 fun zz=>match zz with
 |(out,i)=>
 bif (decide (i<(l.length:Int)))then
 bQ (((0:Int)≤i∧i<(l.length:Int))∧((out.length+[(at' l i.toNat)].length)*24≤140737488355328)∧(out.length+[(at' l i.toNat)].length≤4611686018427387904)) (
 some (.next ((out++[(at' l i.toNat)]),(IntKind.wrap .i64 (i+1)))))
 else
 some (.done (.brk out))
def mO (l:(List Transfer)):Option (List Transfer):=
 Option.bind (aC (kF l) FUEL (([]:List Transfer),0)) fun o=>match o with
 | .ret v=>some v
 | .brk out1=>
 some out1
def mq (x:Link):Int→Option (aW Int (Ex Unit Bool)):=
 fun i=>
 bif (decide (i<(x.trip.length:Int)))then
 bQ ((0:Int)≤i∧i<(x.trip.length:Int)) (
 bif (bif (bif (bif (decide (((at' x.trip i.toNat).amps)<1))then true else(decide (1000000<((at' x.trip i.toNat).amps))))then true else(decide (((at' x.trip i.toNat).millis)<1)))then true else(decide (100000<((at' x.trip i.toNat).millis))))then
 some (.done (.ret false))
 else
 bQ ((gB [((decide (0<i)),true)]=true→(0:Int)≤(IntKind.wrap .i64 (i - 1))∧(IntKind.wrap .i64 (i - 1))<(x.trip.length:Int))∧(gB [((decide (((at' x.trip i.toNat).amps)≤((at' x.trip ((IntKind.wrap .i64 (i - 1)).toNat)).amps))),false),((decide (0<i)),true)]=true→(0:Int)≤(IntKind.wrap .i64 (i - 1))∧(IntKind.wrap .i64 (i - 1))<(x.trip.length:Int))) (
 bif (bif (decide (0<i))then(bif (decide (((at' x.trip i.toNat).amps)≤((at' x.trip ((IntKind.wrap .i64 (i - 1)).toNat)).amps)))then true else(decide (((at' x.trip ((IntKind.wrap .i64 (i - 1)).toNat)).millis)≤((at' x.trip i.toNat).millis))))else false)then
 some (.done (.ret false))
 else
 some (.next (IntKind.wrap .i64 (i+1)))))
 else
 some (.done (.brk ()))
def qa (p:ai) (x:Link):Option Bool:=
 bif (bif (bif (bif (bif (bif (bif (bif (bif (bif (bif (decide (x.a<0))then true else(decide (p.buses≤x.a)))then true else(decide (x.b<0)))then true else(decide (p.buses≤x.b)))then true else(decide (x.a=x.b)))then true else(decide (x.kind<1)))then true else(decide (3<x.kind)))then true else(decide (x.most<1)))then true else(decide (100000<x.most)))then true else(decide (x.ohm<10)))then true else(decide (100000<x.ohm)))then
 some false
 else
 bif (bif (decide (6<(x.trip.length:Int)))then true else(bif (decide (0<(x.trip.length:Int)))then(!decide (x.kind=3))else false))then
 some false
 else
 Option.bind (aC (mq x) FUEL (0)) fun o=>match o with
 | .ret v=>some v
 | .brk _=>
 some true
def lC (p:ai):Int→Option (aW Int (Ex Unit Int)):=
 fun i=>
 bif (decide (i<(p.sources.length:Int)))then
 bQ ((0:Int)≤i∧i<(p.sources.length:Int)) (
 bif (bif (bif (bif (bif (bif (bif (bif (bif (bif (decide (((at' p.sources i.toNat).bus)<0))then true else(decide (p.buses≤((at' p.sources i.toNat).bus))))then true else(decide (((at' p.sources i.toNat).kind)<1)))then true else(decide (3<((at' p.sources i.toNat).kind))))then true else(decide (((at' p.sources i.toNat).power)<1)))then true else(decide (100000<((at' p.sources i.toNat).power))))then true else(decide (((at' p.sources i.toNat).sync)<0)))then true else(decide (8<((at' p.sources i.toNat).sync))))then true else(decide (((at' p.sources i.toNat).ohm)<10)))then true else(decide (100000<((at' p.sources i.toNat).ohm))))then
 some (.done (.ret 11))
 else
 some (.next (IntKind.wrap .i64 (i+1))))
 else
 some (.done (.brk ()))
def lF (p:ai):Int→Option (aW Int (Ex Unit Int)):=
 fun i1=>
 bif (decide (i1<(p.links.length:Int)))then
 (qa p (at' p.links i1.toNat)).bind fun r_=>
 bQ ((0:Int)≤i1∧i1<(p.links.length:Int)) (
 bif (!r_)then
 some (.done (.ret 12))
 else
 some (.next (IntKind.wrap .i64 (i1+1))))
 else
 some (.done (.brk ()))
def lg (p:ai):Int→Option (aW Int (Ex Unit Int)):=
 fun i2=>
 bif (decide (i2<(p.racks.length:Int)))then
 bQ ((0:Int)≤i2∧i2<(p.racks.length:Int)) (
 bif (decide ((((at' p.racks i2.toNat).feeds).e1)=(-1)))then
 bif (bif (bif (bif (bif (bif (bif (bif (bif (decide ((((at' p.racks i2.toNat).feeds).e0)<0))then true else(decide (p.buses≤(((at' p.racks i2.toNat).feeds).e0))))then true else(decide ((((at' p.racks i2.toNat).feeds).e1)<(-1))))then true else(decide (p.buses≤(((at' p.racks i2.toNat).feeds).e1))))then true else(decide ((((at' p.racks i2.toNat).feeds).e0)=(((at' p.racks i2.toNat).feeds).e1))))then true else(decide (((at' p.racks i2.toNat).power)<1)))then true else(decide (100000<((at' p.racks i2.toNat).power))))then true else(decide (((at' p.racks i2.toNat).paths)<0)))then true else(decide (1<((at' p.racks i2.toNat).paths))))then
 some (.done (.ret 13))
 else
 some (.next (IntKind.wrap .i64 (i2+1)))
 else
 bif (bif (bif (bif (bif (bif (bif (bif (bif (decide ((((at' p.racks i2.toNat).feeds).e0)<0))then true else(decide (p.buses≤(((at' p.racks i2.toNat).feeds).e0))))then true else(decide ((((at' p.racks i2.toNat).feeds).e1)<(-1))))then true else(decide (p.buses≤(((at' p.racks i2.toNat).feeds).e1))))then true else(decide ((((at' p.racks i2.toNat).feeds).e0)=(((at' p.racks i2.toNat).feeds).e1))))then true else(decide (((at' p.racks i2.toNat).power)<1)))then true else(decide (100000<((at' p.racks i2.toNat).power))))then true else(decide (((at' p.racks i2.toNat).paths)<0)))then true else(decide (2<((at' p.racks i2.toNat).paths))))then
 some (.done (.ret 13))
 else
 some (.next (IntKind.wrap .i64 (i2+1))))
 else
 some (.done (.brk ()))
def oM (p:ai):Option Int:=
 bif (bif (decide (p.buses<1))then true else(decide (24<p.buses)))then
 some 10
 else
 bif (decide (8<(p.sources.length:Int)))then
 some 11
 else
 Option.bind (aC (lC p) FUEL (0)) fun o=>match o with
 | .ret v=>some v
 | .brk _=>
 bif (decide (40<(p.links.length:Int)))then
 some 12
 else
 Option.bind (aC (lF p) FUEL (0)) fun o=>match o with
 | .ret v=>some v
 | .brk _=>
 bif (decide (24<(p.racks.length:Int)))then
 some 13
 else
 Option.bind (aC (lg p) FUEL (0)) fun o=>match o with
 | .ret v=>some v
 | .brk _=>
 some 0
def lD (p:ai) (s_:State):Int→Option (aW Int (Ex Unit Bool)):=
 fun i=>
 bif (decide (i<(p.links.length:Int)))then
 bQ (((0:Int)≤i∧i<(p.links.length:Int))∧(gB [((decide (((at' p.links i.toNat).kind)=1)),true)]=true→(0:Int)≤i∧i<(s_.closed.length:Int))∧(gB [((!(at' s_.closed i.toNat)),false),((decide (((at' p.links i.toNat).kind)=1)),true)]=true→(0:Int)≤i∧i<(s_.locked.length:Int))) (
 bif (bif (decide (((at' p.links i.toNat).kind)=1))then(bif (!(at' s_.closed i.toNat))then true else(at' s_.locked i.toNat))else false)then
 some (.done (.ret false))
 else
 some (.next (IntKind.wrap .i64 (i+1))))
 else
 some (.done (.brk ()))
def oQ (p:ai) (s_:State):Option Bool:=
 bif (bif (bif (bif (bif (bif (bif (!decide ((s_.closed.length:Int)=(p.links.length:Int)))then true else(!decide ((s_.locked.length:Int)=(p.links.length:Int))))then true else(!decide ((s_.badLink.length:Int)=(p.links.length:Int))))then true else(!decide ((s_.on_.length:Int)=(p.sources.length:Int))))then true else(!decide ((s_.badSource.length:Int)=(p.sources.length:Int))))then true else(!decide ((s_.earthed.length:Int)=p.buses)))then true else(!decide ((s_.badBus.length:Int)=p.buses)))then
 some false
 else
 Option.bind (aC (lD p s_) FUEL (0)) fun o=>match o with
 | .ret v=>some v
 | .brk _=>
 some true
def di (p:ai) (s_:State):Option Int:=
 (oM p).bind fun r_=>
 (bif gB [((decide (r_=0)),true)]then oQ p s_ else some default).bind fun r_1=>
 bif (bif (decide (r_=0))then(!r_1)else false)then
 some 9
 else
 some r_
def lZ (p:ai) (i:Int):Option Bool:=
 bQ (gB [((bif (decide (0≤i))then(decide (i<(p.links.length:Int)))else false),true)]=true→(0:Int)≤i∧i<(p.links.length:Int)) (
 some (bif (bif (decide (0≤i))then(decide (i<(p.links.length:Int)))else false)then(!decide (((at' p.links i.toNat).kind)=1))else false))
def fe (p:ai) (l:(List Transfer)):Int→Option (aW Int (Ex Unit Int)):=
 fun i=>
 bif (decide (i<(l.length:Int)))then
 bQ ((0:Int)≤i∧i<(l.length:Int)) (
 (bif gB [((bif (decide (((at' l i.toNat).watch)<0))then true else(decide (p.buses≤((at' l i.toNat).watch)))),false)]then lZ p ((at' l i.toNat).close)else some default).bind fun r_1=>
 (bif gB [((!decide (((at' l i.toNat).open_)=(-1))),true),((bif (bif (decide (((at' l i.toNat).watch)<0))then true else(decide (p.buses≤((at' l i.toNat).watch))))then true else(!r_1)),false)]then lZ p ((at' l i.toNat).open_)else some default).bind fun r_2=>
 bif (bif (bif (bif (decide (((at' l i.toNat).watch)<0))then true else(decide (p.buses≤((at' l i.toNat).watch))))then true else(!r_1))then true else(bif (!decide (((at' l i.toNat).open_)=(-1)))then(bif (!r_2)then true else(decide (((at' l i.toNat).open_)=((at' l i.toNat).close))))else false))then
 some (.done (.ret 1))
 else
 some (.next (IntKind.wrap .i64 (i+1))))
 else
 some (.done (.brk ()))
def eT (p:ai) (s_:State) (l:(List Transfer)):Option Int:=
 (di p s_).bind fun r_=>
 bif (!decide (r_=0))then
 some r_
 else
 bif (decide (16<(l.length:Int)))then
 some 1
 else
 Option.bind (aC (fe p l) FUEL (0)) fun o=>match o with
 | .ret v=>some v
 | .brk _=>
 some 0
def jQ (p:ai) (s_:State) (kz:Int):Option Bool:=
 bQ (((0:Int)≤kz∧kz<(s_.on_.length:Int))∧(gB [((at' s_.on_ kz.toNat),true)]=true→(0:Int)≤kz∧kz<(s_.badSource.length:Int))∧(gB [((bif (at' s_.on_ kz.toNat)then(!(at' s_.badSource kz.toNat))else false),true)]=true→(0:Int)≤kz∧kz<(p.sources.length:Int))∧(gB [((bif (at' s_.on_ kz.toNat)then(!(at' s_.badSource kz.toNat))else false),true)]=true→(0:Int)≤(at' p.sources kz.toNat).bus∧(at' p.sources kz.toNat).bus<(s_.badBus.length:Int))) (
 some (bif (bif (at' s_.on_ kz.toNat)then(!(at' s_.badSource kz.toNat))else false)then(!(at' s_.badBus (((at' p.sources kz.toNat).bus).toNat)))else false))
def kY (p:ai) (s_:State) (i:Int):Option Bool:=
 bQ (((0:Int)≤i∧i<(s_.closed.length:Int))∧(gB [((at' s_.closed i.toNat),true)]=true→(0:Int)≤i∧i<(s_.badLink.length:Int))∧(gB [((bif (at' s_.closed i.toNat)then(!(at' s_.badLink i.toNat))else false),true)]=true→(0:Int)≤i∧i<(p.links.length:Int))∧(gB [((bif (at' s_.closed i.toNat)then(!(at' s_.badLink i.toNat))else false),true)]=true→(0:Int)≤(at' p.links i.toNat).a∧(at' p.links i.toNat).a<(s_.badBus.length:Int))∧(gB [((bif (bif (at' s_.closed i.toNat)then(!(at' s_.badLink i.toNat))else false)then(!(at' s_.badBus (((at' p.links i.toNat).a).toNat)))else false),true)]=true→(0:Int)≤i∧i<(p.links.length:Int))∧(gB [((bif (bif (at' s_.closed i.toNat)then(!(at' s_.badLink i.toNat))else false)then(!(at' s_.badBus (((at' p.links i.toNat).a).toNat)))else false),true)]=true→(0:Int)≤(at' p.links i.toNat).b∧(at' p.links i.toNat).b<(s_.badBus.length:Int))) (
 some (bif (bif (bif (at' s_.closed i.toNat)then(!(at' s_.badLink i.toNat))else false)then(!(at' s_.badBus (((at' p.links i.toNat).a).toNat)))else false)then(!(at' s_.badBus (((at' p.links i.toNat).b).toNat)))else false))
def jd (p:ai) (s_:State) (b:Int):((List Bool) × Int)→Option (aW ((List Bool) × Int) (Ex (List Bool) (aW ((List Bool) × Int) (Ex (List Bool) (List Bool))))):=
 fun zz=>match zz with
 |(out2,i)=>
 bif (decide (i<(p.links.length:Int)))then
 bQ ((0:Int)≤i∧i<(p.links.length:Int)) (
 (kY p s_ i).bind fun r_=>
 bQ ((gB [(r_,true)]=true→(0:Int)≤(at' p.links i.toNat).a∧(at' p.links i.toNat).a<(out2.length:Int))∧(gB [((at' out2 (((at' p.links i.toNat).a).toNat)),false),(r_,true)]=true→(0:Int)≤(at' p.links i.toNat).b∧(at' p.links i.toNat).b<(out2.length:Int))) (
 bif (bif r_ then(bif (at' out2 (((at' p.links i.toNat).a).toNat))then true else(at' out2 (((at' p.links i.toNat).b).toNat)))else false)then
 bQ ((0:Int)≤(at' p.links i.toNat).a∧(at' p.links i.toNat).a<(out2.length:Int)) (
 bQ ((0:Int)≤(at' p.links i.toNat).b∧(at' p.links i.toNat).b<((out2.set (((at' p.links i.toNat).a).toNat) true).length:Int)) (
 some (.next (((out2.set (((at' p.links i.toNat).a).toNat) true).set (((at' p.links i.toNat).b).toNat) true),(IntKind.wrap .i64 (i+1))))))
 else
 some (.next (out2,(IntKind.wrap .i64 (i+1))))))
 else
 some (.done (.brk out2))
def jm (p:ai) (s_:State) (b:Int):((List Bool) × Int)→Option (aW ((List Bool) × Int) (Ex (List Bool) (List Bool))):=
 fun zz=>match zz with
 |(out,n)=>
 bif (decide (n<p.buses))then
 Option.bind (aC (jd p s_ b) FUEL (out,0)) fun o=>match o with
 | .ret v=>some v
 | .brk out3=>
 some (.next (out3,(IntKind.wrap .i64 (n+1))))
 else
 some (.done (.brk out))
def gy (p:ai) (s_:State) (b:Int):Option (List Bool):=
 bQ (((0:Int)≤p.buses)∧((1:Int)*p.buses≤281474976710656)∧((p.buses:Int)≤9223372036854775807)) (
 bQ ((0:Int)≤b∧b<((List.replicate p.buses.toNat (false:Bool)).length:Int)) (
 Option.bind (aC (jm p s_ b) FUEL (((List.replicate p.buses.toNat (false:Bool)).set b.toNat true),0)) fun o=>match o with
 | .ret v=>some v
 | .brk out1=>
 some out1))
def iy (p:ai) (r_2:(List Bool)):((List Bool) × Int)→Option (aW ((List Bool) × Int) (Ex (List Bool) (aW ((List Bool) × Int) (Ex (List Bool) ((List Bool) × Int))))):=
 fun zz=>match zz with
 |(out2,b)=>
 bif (decide (b<p.buses))then
 bQ (((0:Int)≤b∧b<(out2.length:Int))∧(gB [((at' out2 b.toNat),false)]=true→(0:Int)≤b∧b<(r_2.length:Int))) (
 some (.next ((out2.set b.toNat (bif (at' out2 b.toNat)then true else(at' r_2 b.toNat))),(IntKind.wrap .i64 (b+1)))))
 else
 some (.done (.brk out2))
def iA (p:ai) (s_:State):((List Bool) × Int)→Option (aW ((List Bool) × Int) (Ex (List Bool) ((List Bool) × Int))):=
 fun zz=>match zz with
 |(out,kz)=>
 bif (decide (kz<(p.sources.length:Int)))then
 (jQ p s_ kz).bind fun r_1=>
 bif (!r_1)then
 some (.next (out,(IntKind.wrap .i64 (kz+1))))
 else
 (gy p s_ ((at' p.sources kz.toNat).bus)).bind fun r_2=>
 bQ ((0:Int)≤kz∧kz<(p.sources.length:Int)) (
 Option.bind (aC (iy p r_2) FUEL (out,0)) fun o=>match o with
 | .ret v=>some v
 | .brk out3=>
 some (.next (out3,(IntKind.wrap .i64 (kz+1)))))
 else
 some (.done (.brk out))
def eD (p:ai) (s_:State):Option ((List Bool) × Int):=
 (di p s_).bind fun r_=>
 bif (!decide (r_=0))then
 some (([]:List Bool),r_)
 else
 bQ (((0:Int)≤p.buses)∧((1:Int)*p.buses≤281474976710656)∧((p.buses:Int)≤9223372036854775807)) (
 Option.bind (aC (iA p s_) FUEL ((List.replicate p.buses.toNat (false:Bool)),0)) fun o=>match o with
 | .ret v=>some v
 | .brk out1=>
 some (out1,0))
def oO (a:Source) (b:Source):Option Bool:=
 some (bif (!decide (a.sync=b.sync))then true else(decide (a.sync=0)))
def gI (p:ai) (s_:State) (i:Int):((List ah) × Int)→Option (aW ((List ah) × Int) (Ex (List ah) (aW ((List ah) × Int) (Ex (List ah) ((List ah) × Int))))):=
 fun zz=>match zz with
 |(out2,kz)=>
 bif (decide (kz<(p.sources.length:Int)))then
 (jQ p s_ i).bind fun r_1=>
 (bif gB [(r_1,true)]then jQ p s_ kz else some default).bind fun r_2=>
 (bif gB [((bif r_1 then r_2 else false),true)]then gy p s_ ((at' p.sources i.toNat).bus)else some default).bind fun r_3=>
 (bif gB [((bif (bif r_1 then r_2 else false)then(at' r_3 (((at' p.sources kz.toNat).bus).toNat))else false),true)]then oO (at' p.sources i.toNat) (at' p.sources kz.toNat)else some default).bind fun r_4=>
 bQ ((gB [((bif r_1 then r_2 else false),true)]=true→(0:Int)≤i∧i<(p.sources.length:Int))∧(gB [((bif r_1 then r_2 else false),true)]=true→(0:Int)≤kz∧kz<(p.sources.length:Int))∧(gB [((bif r_1 then r_2 else false),true)]=true→(0:Int)≤(at' p.sources kz.toNat).bus∧(at' p.sources kz.toNat).bus<(r_3.length:Int))∧(gB [((bif (bif r_1 then r_2 else false)then(at' r_3 (((at' p.sources kz.toNat).bus).toNat))else false),true)]=true→(0:Int)≤i∧i<(p.sources.length:Int))∧(gB [((bif (bif r_1 then r_2 else false)then(at' r_3 (((at' p.sources kz.toNat).bus).toNat))else false),true)]=true→(0:Int)≤kz∧kz<(p.sources.length:Int))) (
 bif (bif (bif (bif r_1 then r_2 else false)then(at' r_3 (((at' p.sources kz.toNat).bus).toNat))else false)then r_4 else false)then
 bQ (((out2.length+[(⟨i,kz⟩:ah)].length)*16≤140737488355328)∧(out2.length+[(⟨i,kz⟩:ah)].length≤4611686018427387904)) (
 some (.next ((out2++[(⟨i,kz⟩:ah)]),(IntKind.wrap .i64 (kz+1)))))
 else
 some (.next (out2,(IntKind.wrap .i64 (kz+1)))))
 else
 some (.done (.brk out2))
def gQ (p:ai) (s_:State):((List ah) × Int)→Option (aW ((List ah) × Int) (Ex (List ah) ((List ah) × Int))):=
 fun zz=>match zz with
 |(out,i)=>
 bif (decide (i<(p.sources.length:Int)))then
 Option.bind (aC (gI p s_ i) FUEL (out,(IntKind.wrap .i64 (i+1)))) fun o=>match o with
 | .ret v=>some v
 | .brk out3=>
 some (.next (out3,(IntKind.wrap .i64 (i+1))))
 else
 some (.done (.brk out))
def dM (p:ai) (s_:State):Option ((List ah) × Int):=
 (di p s_).bind fun r_=>
 bif (!decide (r_=0))then
 some (([]:List ah),r_)
 else
 Option.bind (aC (gQ p s_) FUEL (([]:List ah),0)) fun o=>match o with
 | .ret v=>some v
 | .brk out1=>
 some (out1,0)
def jv (p:ai) (s_:State) (r_:((List Bool) × Int)) (r_2:((List Bool) × Int)):(Bool × Int)→Option (aW (Bool × Int) (Ex Bool (State × Bool))):=
 fun zz=>match zz with
 |(can,b)=>
 bif (decide (b<p.buses))then
 bQ (((0:Int)≤b∧b<(r_.1.length:Int))∧(gB [((at' r_.1 b.toNat),true)]=true→(0:Int)≤b∧b<(r_2.1.length:Int))∧(gB [((bif (at' r_.1 b.toNat)then(!(at' r_2.1 b.toNat))else false),false)]=true→(0:Int)≤b∧b<(r_2.1.length:Int))∧(gB [((at' r_2.1 b.toNat),true),((bif (at' r_.1 b.toNat)then(!(at' r_2.1 b.toNat))else false),false)]=true→(0:Int)≤b∧b<(s_.earthed.length:Int))∧(gB [((bif (at' r_2.1 b.toNat)then(at' s_.earthed b.toNat)else false),true),((bif (at' r_.1 b.toNat)then(!(at' r_2.1 b.toNat))else false),false)]=true→(0:Int)≤b∧b<(r_.1.length:Int))) (
 bif (bif (bif (at' r_.1 b.toNat)then(!(at' r_2.1 b.toNat))else false)then true else(bif (bif (at' r_2.1 b.toNat)then(at' s_.earthed b.toNat)else false)then(!(at' r_.1 b.toNat))else false))then
 some (.next (false,(IntKind.wrap .i64 (b+1))))
 else
 some (.next (can,(IntKind.wrap .i64 (b+1)))))
 else
 some (.done (.brk can))
def kR (r_3:((List ah) × Int)) (r_4:((List ah) × Int)) (i:Int):(Bool × Int)→Option (aW (Bool × Int) (Ex Bool (aW (Bool × Int) (Ex Bool (State × Bool))))):=
 fun zz=>match zz with
 |(there,kz)=>
 bif (decide (kz<(r_3.1.length:Int)))then
 bQ ((gB [(there,false)]=true→(0:Int)≤kz∧kz<(r_3.1.length:Int))∧(gB [(there,false)]=true→(0:Int)≤i∧i<(r_4.1.length:Int))) (
 some (.next ((bif there then true else((decide (((at' r_3.1 kz.toNat).e0)=((at' r_4.1 i.toNat).e0))) && ((decide (((at' r_3.1 kz.toNat).e1)=((at' r_4.1 i.toNat).e1))) && true))),(IntKind.wrap .i64 (kz+1)))))
 else
 some (.done (.brk there))
def jr (r_3:((List ah) × Int)) (r_4:((List ah) × Int)):(Bool × Int)→Option (aW (Bool × Int) (Ex Bool (State × Bool))):=
 fun zz=>match zz with
 |(can2,i)=>
 bif (decide (i<(r_4.1.length:Int)))then
 Option.bind (aC (kR r_3 r_4 i) FUEL (false,0)) fun o=>match o with
 | .ret v=>some v
 | .brk there1=>
 some (.next ((bif can2 then there1 else false),(IntKind.wrap .i64 (i+1))))
 else
 some (.done (.brk can2))
def xJ (p:ai) (s_:State) (r_:((List Bool) × Int)) (r_5:((List Bool) × Int)):(Bool × Int)→Option (aW (Bool × Int) (Ex Bool (State × Bool))):=
 fun zz=>match zz with
 |(can4,b1)=>
 bif (decide (b1<p.buses))then
 bQ (((0:Int)≤b1∧b1<(r_.1.length:Int))∧(gB [((at' r_.1 b1.toNat),true)]=true→(0:Int)≤b1∧b1<(r_5.1.length:Int))∧(gB [((bif (at' r_.1 b1.toNat)then(!(at' r_5.1 b1.toNat))else false),false)]=true→(0:Int)≤b1∧b1<(r_5.1.length:Int))∧(gB [((at' r_5.1 b1.toNat),true),((bif (at' r_.1 b1.toNat)then(!(at' r_5.1 b1.toNat))else false),false)]=true→(0:Int)≤b1∧b1<(s_.earthed.length:Int))∧(gB [((bif (at' r_5.1 b1.toNat)then(at' s_.earthed b1.toNat)else false),true),((bif (at' r_.1 b1.toNat)then(!(at' r_5.1 b1.toNat))else false),false)]=true→(0:Int)≤b1∧b1<(r_.1.length:Int))) (
 bif (bif (bif (at' r_.1 b1.toNat)then(!(at' r_5.1 b1.toNat))else false)then true else(bif (bif (at' r_5.1 b1.toNat)then(at' s_.earthed b1.toNat)else false)then(!(at' r_.1 b1.toNat))else false))then
 some (.next (false,(IntKind.wrap .i64 (b1+1))))
 else
 some (.next (can4,(IntKind.wrap .i64 (b1+1)))))
 else
 some (.done (.brk can4))
def EB (r_6:((List ah) × Int)) (r_7:((List ah) × Int)) (i1:Int):(Bool × Int)→Option (aW (Bool × Int) (Ex Bool (aW (Bool × Int) (Ex Bool (State × Bool))))):=
 fun zz=>match zz with
 |(there2,kz1)=>
 bif (decide (kz1<(r_6.1.length:Int)))then
 bQ ((gB [(there2,false)]=true→(0:Int)≤kz1∧kz1<(r_6.1.length:Int))∧(gB [(there2,false)]=true→(0:Int)≤i1∧i1<(r_7.1.length:Int))) (
 some (.next ((bif there2 then true else((decide (((at' r_6.1 kz1.toNat).e0)=((at' r_7.1 i1.toNat).e0))) && ((decide (((at' r_6.1 kz1.toNat).e1)=((at' r_7.1 i1.toNat).e1))) && true))),(IntKind.wrap .i64 (kz1+1)))))
 else
 some (.done (.brk there2))
def xB (r_6:((List ah) × Int)) (r_7:((List ah) × Int)):(Bool × Int)→Option (aW (Bool × Int) (Ex Bool (State × Bool))):=
 fun zz=>match zz with
 |(can6,i1)=>
 bif (decide (i1<(r_7.1.length:Int)))then
 Option.bind (aC (EB r_6 r_7 i1) FUEL (false,0)) fun o=>match o with
 | .ret v=>some v
 | .brk there3=>
 some (.next ((bif can6 then there3 else false),(IntKind.wrap .i64 (i1+1))))
 else
 some (.done (.brk can6))
def sM (p:ai) (s_:State) (x:Transfer):Option (State × Bool):=
 (eD p s_).bind fun r_=>
 (fI s_).bind fun r_1=>
 bQ ((0:Int)≤x.close∧x.close<(r_1.closed.length:Int)) (
 bQ (((0:Int)≤x.watch∧x.watch<(s_.badBus.length:Int))∧(gB [((!(at' s_.badBus x.watch.toNat)),true)]=true→(0:Int)≤x.watch∧x.watch<(r_.1.length:Int))∧(gB [((bif (!(at' s_.badBus x.watch.toNat))then(!(at' r_.1 x.watch.toNat))else false),true)]=true→(0:Int)≤x.close∧x.close<(s_.closed.length:Int))∧(gB [((bif (bif (!(at' s_.badBus x.watch.toNat))then(!(at' r_.1 x.watch.toNat))else false)then(!(at' s_.closed x.close.toNat))else false),true)]=true→(0:Int)≤x.close∧x.close<(s_.badLink.length:Int))∧(gB [((bif (bif (bif (!(at' s_.badBus x.watch.toNat))then(!(at' r_.1 x.watch.toNat))else false)then(!(at' s_.closed x.close.toNat))else false)then(!(at' s_.badLink x.close.toNat))else false),true)]=true→(0:Int)≤x.close∧x.close<(s_.locked.length:Int))) (
 bif (decide (0≤x.open_))then
 bQ ((0:Int)≤x.open_∧x.open_<((r_1.closed.set x.close.toNat true).length:Int)) (
 bQ ((gB [((bif (bif (bif (bif (!(at' s_.badBus x.watch.toNat))then(!(at' r_.1 x.watch.toNat))else false)then(!(at' s_.closed x.close.toNat))else false)then(!(at' s_.badLink x.close.toNat))else false)then(!(at' s_.locked x.close.toNat))else false),true)]=true→(0:Int)≤x.open_∧x.open_<(s_.badLink.length:Int))∧(gB [((bif (bif (bif (bif (bif (!(at' s_.badBus x.watch.toNat))then(!(at' r_.1 x.watch.toNat))else false)then(!(at' s_.closed x.close.toNat))else false)then(!(at' s_.badLink x.close.toNat))else false)then(!(at' s_.locked x.close.toNat))else false)then(!(at' s_.badLink x.open_.toNat))else false),true)]=true→(0:Int)≤x.open_∧x.open_<(s_.locked.length:Int))) (
 (eD p (⟨((r_1.closed.set x.close.toNat true).set x.open_.toNat false),r_1.locked,r_1.badLink,r_1.on_,r_1.badSource,r_1.earthed,r_1.badBus⟩:State)).bind fun r_2=>
 bQ (gB [((bif (bif (bif (bif (bif (bif (!(at' s_.badBus x.watch.toNat))then(!(at' r_.1 x.watch.toNat))else false)then(!(at' s_.closed x.close.toNat))else false)then(!(at' s_.badLink x.close.toNat))else false)then(!(at' s_.locked x.close.toNat))else false)then(!(at' s_.badLink x.open_.toNat))else false)then(!(at' s_.locked x.open_.toNat))else false),true)]=true→(0:Int)≤x.watch∧x.watch<(r_2.1.length:Int)) (
 Option.bind (aC (jv p s_ r_ r_2) FUEL ((bif (bif (bif (bif (bif (bif (bif (!(at' s_.badBus x.watch.toNat))then(!(at' r_.1 x.watch.toNat))else false)then(!(at' s_.closed x.close.toNat))else false)then(!(at' s_.badLink x.close.toNat))else false)then(!(at' s_.locked x.close.toNat))else false)then(!(at' s_.badLink x.open_.toNat))else false)then(!(at' s_.locked x.open_.toNat))else false)then(at' r_2.1 x.watch.toNat)else false),0)) fun o=>match o with
 | .ret v=>some v
 | .brk can1=>
 (dM p s_).bind fun r_3=>
 (dM p (⟨((r_1.closed.set x.close.toNat true).set x.open_.toNat false),r_1.locked,r_1.badLink,r_1.on_,r_1.badSource,r_1.earthed,r_1.badBus⟩:State)).bind fun r_4=>
 Option.bind (aC (jr r_3 r_4) FUEL (can1,0)) fun o=>match o with
 | .ret v=>some v
 | .brk can3=>
 some ((⟨((r_1.closed.set x.close.toNat true).set x.open_.toNat false),r_1.locked,r_1.badLink,r_1.on_,r_1.badSource,r_1.earthed,r_1.badBus⟩:State),can3))))
 else
 (eD p (⟨(r_1.closed.set x.close.toNat true),r_1.locked,r_1.badLink,r_1.on_,r_1.badSource,r_1.earthed,r_1.badBus⟩:State)).bind fun r_5=>
 bQ (gB [((bif (bif (bif (bif (!(at' s_.badBus x.watch.toNat))then(!(at' r_.1 x.watch.toNat))else false)then(!(at' s_.closed x.close.toNat))else false)then(!(at' s_.badLink x.close.toNat))else false)then(!(at' s_.locked x.close.toNat))else false),true)]=true→(0:Int)≤x.watch∧x.watch<(r_5.1.length:Int)) (
 Option.bind (aC (xJ p s_ r_ r_5) FUEL ((bif (bif (bif (bif (bif (!(at' s_.badBus x.watch.toNat))then(!(at' r_.1 x.watch.toNat))else false)then(!(at' s_.closed x.close.toNat))else false)then(!(at' s_.badLink x.close.toNat))else false)then(!(at' s_.locked x.close.toNat))else false)then(at' r_5.1 x.watch.toNat)else false),0)) fun o=>match o with
 | .ret v=>some v
 | .brk can5=>
 (dM p s_).bind fun r_6=>
 (dM p (⟨(r_1.closed.set x.close.toNat true),r_1.locked,r_1.badLink,r_1.on_,r_1.badSource,r_1.earthed,r_1.badBus⟩:State)).bind fun r_7=>
 Option.bind (aC (xB r_6 r_7) FUEL (can5,0)) fun o=>match o with
 | .ret v=>some v
 | .brk can7=>
 some ((⟨(r_1.closed.set x.close.toNat true),r_1.locked,r_1.badLink,r_1.on_,r_1.badSource,r_1.earthed,r_1.badBus⟩:State),can7))))
def iE (order:(List Int)) (i:Int):(Bool × Int)→Option (aW (Bool × Int) (Ex Bool (aW Int (Ex ((List Bool) × (List Bool) × (List Bool) × (List Bool) × (List Bool) × (List Bool) × (List Bool) × (List Int)) (aW ((List Bool) × (List Bool) × (List Bool) × (List Bool) × (List Bool) × (List Bool) × (List Bool) × (List Int) × Int) (Ex ((List Bool) × (List Bool) × (List Bool) × (List Bool) × (List Bool) × (List Bool) × (List Bool) × (List Int)) (State × (List Int) × Int))))))):=
 fun zz=>match zz with
 |(done,kz)=>
 bif (decide (kz<(order.length:Int)))then
 bQ (gB [(done,false)]=true→(0:Int)≤kz∧kz<(order.length:Int)) (
 some (.next ((bif done then true else(decide ((at' order kz.toNat)=i))),(IntKind.wrap .i64 (kz+1)))))
 else
 some (.done (.brk done))
def j6 (p:ai) (l:(List Transfer)) (now0:(List Bool)) (now1:(List Bool)) (now2:(List Bool)) (now3:(List Bool)) (now4:(List Bool)) (now5:(List Bool)) (now6:(List Bool)) (order:(List Int)):Int→Option (aW Int (Ex ((List Bool) × (List Bool) × (List Bool) × (List Bool) × (List Bool) × (List Bool) × (List Bool) × (List Int)) (aW ((List Bool) × (List Bool) × (List Bool) × (List Bool) × (List Bool) × (List Bool) × (List Bool) × (List Int) × Int) (Ex ((List Bool) × (List Bool) × (List Bool) × (List Bool) × (List Bool) × (List Bool) × (List Bool) × (List Int)) (State × (List Int) × Int))))):=
 fun i=>
 bif (decide (i<(l.length:Int)))then
 Option.bind (aC (iE order i) FUEL (false,0)) fun o=>match o with
 | .ret v=>some v
 | .brk done1=>
 (sM p (⟨now0,now1,now2,now3,now4,now5,now6⟩:State) (at' l i.toNat)).bind fun r_2=>
 bQ ((0:Int)≤i∧i<(l.length:Int)) (
 bif (bif (!done1)then r_2.2 else false)then
 bQ (((order.length+[i].length)*8≤140737488355328)∧(order.length+[i].length≤4611686018427387904)) (
 some (.done (.brk (r_2.1.closed,r_2.1.locked,r_2.1.badLink,r_2.1.on_,r_2.1.badSource,r_2.1.earthed,r_2.1.badBus,(order++[i])))))
 else
 some (.next (IntKind.wrap .i64 (i+1))))
 else
 some (.done (.brk (now0,now1,now2,now3,now4,now5,now6,order)))
def fE (p:ai) (l:(List Transfer)):((List Bool) × (List Bool) × (List Bool) × (List Bool) × (List Bool) × (List Bool) × (List Bool) × (List Int) × Int)→Option (aW ((List Bool) × (List Bool) × (List Bool) × (List Bool) × (List Bool) × (List Bool) × (List Bool) × (List Int) × Int) (Ex ((List Bool) × (List Bool) × (List Bool) × (List Bool) × (List Bool) × (List Bool) × (List Bool) × (List Int)) (State × (List Int) × Int))):=
 fun zz=>match zz with
 |(now0,now1,now2,now3,now4,now5,now6,order,n)=>
 bif (decide (n<(l.length:Int)))then
 Option.bind (aC (j6 p l now0 now1 now2 now3 now4 now5 now6 order) FUEL (0)) fun o=>match o with
 | .ret v=>some v
 | .brk (now02,now12,now22,now32,now42,now52,now62,order2)=>
 some (.next (now02,now12,now22,now32,now42,now52,now62,order2,(IntKind.wrap .i64 (n+1))))
 else
 some (.done (.brk (now0,now1,now2,now3,now4,now5,now6,order)))
def gN (p:ai) (s_:State) (l:(List Transfer)):Option (State × (List Int) × Int):=
 (eT p s_ l).bind fun r_=>
 bif (!decide (r_=0))then
 some ((⟨([]:List Bool),([]:List Bool),([]:List Bool),([]:List Bool),([]:List Bool),([]:List Bool),([]:List Bool)⟩:State),([]:List Int),r_)
 else
 (fI s_).bind fun r_1=>
 Option.bind (aC (fE p l) FUEL (r_1.closed,r_1.locked,r_1.badLink,r_1.on_,r_1.badSource,r_1.earthed,r_1.badBus,([]:List Int),0)) fun o=>match o with
 | .ret v=>some v
 | .brk (now01,now11,now21,now31,now41,now51,now61,order1)=>
 some ((⟨now01,now11,now21,now31,now41,now51,now61⟩:State),order1,0)
def ic (a:State) (b:State):Option Bool:=
 (bE a.closed b.closed).bind fun r_=>
 (bif gB [(r_,true)]then bE a.locked b.locked else some default).bind fun r_1=>
 (bif gB [((bif r_ then r_1 else false),true)]then bE a.badLink b.badLink else some default).bind fun r_2=>
 (bif gB [((bif (bif r_ then r_1 else false)then r_2 else false),true)]then bE a.on_ b.on_ else some default).bind fun r_3=>
 (bif gB [((bif (bif (bif r_ then r_1 else false)then r_2 else false)then r_3 else false),true)]then bE a.badSource b.badSource else some default).bind fun r_4=>
 (bif gB [((bif (bif (bif (bif r_ then r_1 else false)then r_2 else false)then r_3 else false)then r_4 else false),true)]then bE a.earthed b.earthed else some default).bind fun r_5=>
 (bif gB [((bif (bif (bif (bif (bif r_ then r_1 else false)then r_2 else false)then r_3 else false)then r_4 else false)then r_5 else false),true)]then bE a.badBus b.badBus else some default).bind fun r_6=>
 some (bif (bif (bif (bif (bif (bif r_ then r_1 else false)then r_2 else false)then r_3 else false)then r_4 else false)then r_5 else false)then r_6 else false)
def kT (l:(List Bool)) (i:Int) (is:Bool):Option (List Bool):=
 bQ (((([]:List Bool).length+l.length)*1≤140737488355328)∧(([]:List Bool).length+l.length≤4611686018427387904)) (
 bQ ((0:Int)≤i∧i<((([]:List Bool)++l).length:Int)) (
 some ((([]:List Bool)++l).set i.toNat is)))
def jo (p:ai) (s_:State) (x:Part) (is:Bool):Option (State × Int):=
 (di p s_).bind fun r_=>
 bif (!decide (r_=0))then
 some ((⟨([]:List Bool),([]:List Bool),([]:List Bool),([]:List Bool),([]:List Bool),([]:List Bool),([]:List Bool)⟩:State),r_)
 else
 bif (decide (x.index<0))then
 some ((⟨([]:List Bool),([]:List Bool),([]:List Bool),([]:List Bool),([]:List Bool),([]:List Bool),([]:List Bool)⟩:State),14)
 else
 bif (bif (decide (x.kind=1))then(decide (x.index<p.buses))else false)then
 (kT s_.badBus x.index is).bind fun r_1=>
 some ((⟨s_.closed,s_.locked,s_.badLink,s_.on_,s_.badSource,s_.earthed,r_1⟩:State),0)
 else
 bif (bif (decide (x.kind=2))then(decide (x.index<(p.sources.length:Int)))else false)then
 (kT s_.badSource x.index is).bind fun r_2=>
 some ((⟨s_.closed,s_.locked,s_.badLink,s_.on_,r_2,s_.earthed,s_.badBus⟩:State),0)
 else
 bif (bif (decide (x.kind=3))then(decide (x.index<(p.links.length:Int)))else false)then
 (kT s_.badLink x.index is).bind fun r_3=>
 some ((⟨s_.closed,s_.locked,r_3,s_.on_,s_.badSource,s_.earthed,s_.badBus⟩:State),0)
 else
 some ((⟨([]:List Bool),([]:List Bool),([]:List Bool),([]:List Bool),([]:List Bool),([]:List Bool),([]:List Bool)⟩:State),14)
def lq (p:ai) (parts:(List Part)):((List Bool) × (List Bool) × (List Bool) × (List Bool) × (List Bool) × (List Bool) × (List Bool) × Int)→Option (aW ((List Bool) × (List Bool) × (List Bool) × (List Bool) × (List Bool) × (List Bool) × (List Bool) × Int) (Ex ((List Bool) × (List Bool) × (List Bool) × (List Bool) × (List Bool) × (List Bool) × (List Bool)) (State × Int))):=
 fun zz=>match zz with
 |(now0,now1,now2,now3,now4,now5,now6,i)=>
 bif (decide (i<(parts.length:Int)))then
 (jo p (⟨now0,now1,now2,now3,now4,now5,now6⟩:State) (at' parts i.toNat) true).bind fun r_1=>
 bQ ((0:Int)≤i∧i<(parts.length:Int)) (
 bif (!decide (r_1.2=0))then
 some (.done (.ret ((⟨([]:List Bool),([]:List Bool),([]:List Bool),([]:List Bool),([]:List Bool),([]:List Bool),([]:List Bool)⟩:State),r_1.2)))
 else
 some (.next (r_1.1.closed,r_1.1.locked,r_1.1.badLink,r_1.1.on_,r_1.1.badSource,r_1.1.earthed,r_1.1.badBus,(IntKind.wrap .i64 (i+1)))))
 else
 some (.done (.brk (now0,now1,now2,now3,now4,now5,now6)))
def l9 (p:ai) (s_:State) (l:(List Transfer)) (parts:(List Part)):Option (State × Int):=
 (eT p s_ l).bind fun r_=>
 bif (!decide (r_=0))then
 some ((⟨([]:List Bool),([]:List Bool),([]:List Bool),([]:List Bool),([]:List Bool),([]:List Bool),([]:List Bool)⟩:State),r_)
 else
 Option.bind (aC (lq p parts) FUEL (s_.closed,s_.locked,s_.badLink,s_.on_,s_.badSource,s_.earthed,s_.badBus,0)) fun o=>match o with
 | .ret v=>some v
 | .brk (now01,now11,now21,now31,now41,now51,now61)=>
 (gN p (⟨now01,now11,now21,now31,now41,now51,now61⟩:State) l).bind fun r_2=>
 some (r_2.1,0)
def jO (p:ai) (r_:(State × Int)):((List Int) × Int)→Option (aW ((List Int) × Int) (Ex (List Int) ((List Int) × Int))):=
 fun zz=>match zz with
 |(out,t29)=>
 bif (decide (t29<(p.racks.length:Int)))then
 bQ ((0:Int)≤t29∧t29<(p.racks.length:Int)) (
 (bif gB [((decide (0<((at' p.racks t29.toNat).paths))),true)]then mP p r_.1 t29 else some default).bind fun r_1=>
 bif (bif (decide (0<((at' p.racks t29.toNat).paths)))then(!r_1)else false)then
 bQ (((out.length+[t29].length)*8≤140737488355328)∧(out.length+[t29].length≤4611686018427387904)) (
 some (.next ((out++[t29]),(IntKind.wrap .i64 (t29+1)))))
 else
 some (.next (out,(IntKind.wrap .i64 (t29+1)))))
 else
 some (.done (.brk out))
def qi (p:ai) (s_:State) (l:(List Transfer)) (parts:(List Part)):Option ((List Int) × Int):=
 (jS p s_ l parts).bind fun r_=>
 bif (!decide (r_.2=0))then
 some (([]:List Int),r_.2)
 else
 Option.bind (aC (jO p r_) FUEL (([]:List Int),0)) fun o=>match o with
 | .ret v=>some v
 | .brk out1=>
 some (out1,0)
def jh (p:ai) (r_:((List Bool) × Int)):((List aL) × Int)→Option (aW ((List aL) × Int) (Ex (List aL) ((List aL) × Int))):=
 fun zz=>match zz with
 |(out,r_1)=>
 bif (decide (r_1<(p.racks.length:Int)))then
 bQ ((0:Int)≤r_1∧r_1<(p.racks.length:Int)) (
 bQ (((0:Int)≤((at' p.racks r_1.toNat).feeds).e0∧((at' p.racks r_1.toNat).feeds).e0<(r_.1.length:Int))∧(gB [((decide (0≤(((at' p.racks r_1.toNat).feeds).e1))),true)]=true→(0:Int)≤(if((at' p.racks r_1.toNat).feeds).e1<0 then 0 else((at' p.racks r_1.toNat).feeds).e1)∧(if((at' p.racks r_1.toNat).feeds).e1<0 then 0 else((at' p.racks r_1.toNat).feeds).e1)<(r_.1.length:Int))∧((out.length+[(⟨(at' r_.1 ((((at' p.racks r_1.toNat).feeds).e0).toNat)),(bif (decide (0≤(((at' p.racks r_1.toNat).feeds).e1)))then(at' r_.1 ((if((at' p.racks r_1.toNat).feeds).e1<0 then 0 else((at' p.racks r_1.toNat).feeds).e1).toNat))else false)⟩:aL)].length)*2≤140737488355328)∧(out.length+[(⟨(at' r_.1 ((((at' p.racks r_1.toNat).feeds).e0).toNat)),(bif (decide (0≤(((at' p.racks r_1.toNat).feeds).e1)))then(at' r_.1 ((if((at' p.racks r_1.toNat).feeds).e1<0 then 0 else((at' p.racks r_1.toNat).feeds).e1).toNat))else false)⟩:aL)].length≤4611686018427387904)) (
 some (.next ((out++[(⟨(at' r_.1 ((((at' p.racks r_1.toNat).feeds).e0).toNat)),(bif (decide (0≤(((at' p.racks r_1.toNat).feeds).e1)))then(at' r_.1 ((if((at' p.racks r_1.toNat).feeds).e1<0 then 0 else((at' p.racks r_1.toNat).feeds).e1).toNat))else false)⟩:aL)]),(IntKind.wrap .i64 (r_1+1))))))
 else
 some (.done (.brk out))
def sZ (p:ai) (s_:State):Option ((List aL) × Int):=
 (eD p s_).bind fun r_=>
 bif (!decide (r_.2=0))then
 some (([]:List aL),r_.2)
 else
 Option.bind (aC (jh p r_) FUEL (([]:List aL),0)) fun o=>match o with
 | .ret v=>some v
 | .brk out1=>
 some (out1,0)
def sV (p:ai) (s_:State) (rack:Int):Option Bool:=
 (sZ p s_).bind fun r_=>
 bQ (((0:Int)≤rack∧rack<(r_.1.length:Int))∧(gB [((at' r_.1 rack.toNat).e0,false)]=true→(0:Int)≤rack∧rack<(r_.1.length:Int))) (
 some (bif (at' r_.1 rack.toNat).e0 then true else(at' r_.1 rack.toNat).e1))
def jK (p:ai) (r_:(State × Int)):((List Int) × Int)→Option (aW ((List Int) × Int) (Ex (List Int) ((List Int) × Int))):=
 fun zz=>match zz with
 |(out,r_1)=>
 bif (decide (r_1<(p.racks.length:Int)))then
 (bif gB [((decide (1≤((at' p.racks r_1.toNat).paths))),true)]then sV p r_.1 r_1 else some default).bind fun r_2=>
 bQ ((0:Int)≤r_1∧r_1<(p.racks.length:Int)) (
 bif (bif (decide (1≤((at' p.racks r_1.toNat).paths)))then(!r_2)else false)then
 bQ (((out.length+[r_1].length)*8≤140737488355328)∧(out.length+[r_1].length≤4611686018427387904)) (
 some (.next ((out++[r_1]),(IntKind.wrap .i64 (r_1+1)))))
 else
 some (.next (out,(IntKind.wrap .i64 (r_1+1)))))
 else
 some (.done (.brk out))
def qc (p:ai) (s_:State) (l:(List Transfer)) (parts:(List Part)):Option ((List Int) × Int):=
 (l9 p s_ l parts).bind fun r_=>
 bif (!decide (r_.2=0))then
 some (([]:List Int),r_.2)
 else
 Option.bind (aC (jK p r_) FUEL (([]:List Int),0)) fun o=>match o with
 | .ret v=>some v
 | .brk out1=>
 some (out1,0)
def dU  :((List Bool) × Int)→Option (aW ((List Bool) × Int) (Ex (List Bool) Bool)):=
 fun zz=>match zz with
 |(a0,i)=>
 bif (decide (i<(a0.length:Int)))then
 bQ ((0:Int)≤i∧i<(a0.length:Int)) (
 some (.next ((a0.set i.toNat (!(at' a0 i.toNat))),(IntKind.wrap .i64 (i+1)))))
 else
 some (.done (.brk a0))
def dV  :((List Bool) × Int)→Option (aW ((List Bool) × Int) (Ex (List Bool) Bool)):=
 fun zz=>match zz with
 |(a5,i1)=>
 bif (decide (i1<(a5.length:Int)))then
 bQ ((0:Int)≤i1∧i1<(a5.length:Int)) (
 some (.next ((a5.set i1.toNat (!(at' a5 i1.toNat))),(IntKind.wrap .i64 (i1+1)))))
 else
 some (.done (.brk a5))
def iL (p:ai) (s_:State) (l:(List Transfer)) (parts:(List Part)):Option Bool:=
 bif (bif (bif (bif (bif (decide (60<(p.sources.length:Int)))then true else(decide (60<(p.links.length:Int))))then true else(decide (60<(p.racks.length:Int))))then true else(decide (20<(l.length:Int))))then true else(decide (20<(parts.length:Int))))then
 (oK).bind fun r_=>
 some r_
 else
 (fI s_).bind fun r_1=>
 (mO l).bind fun r_2=>
 (dK p r_1 r_2).bind fun r_3=>
 (gN p s_ l).bind fun r_4=>
 (bif gB [((!decide (r_3.2.2=r_4.2.2)),false)]then ic r_3.1 r_4.1 else some default).bind fun r_5=>
 (bif gB [((bif (!decide (r_3.2.2=r_4.2.2))then true else(!r_5)),false)]then fw r_3.2.1 r_4.2.1 else some default).bind fun r_6=>
 bif (bif (bif (!decide (r_3.2.2=r_4.2.2))then true else(!r_5))then true else(!r_6))then
 some false
 else
 Option.bind (aC dU FUEL (r_3.1.closed,0)) fun o=>match o with
 | .ret v=>some v
 | .brk a01=>
 Option.bind (aC dV FUEL (r_3.1.earthed,0)) fun o=>match o with
 | .ret v=>some v
 | .brk a51=>
 (mO l).bind fun r_7=>
 (jS p r_1 r_7 parts).bind fun r_8=>
 (l9 p s_ l parts).bind fun r_9=>
 (bif gB [((!decide (r_8.2=r_9.2)),false)]then ic r_8.1 r_9.1 else some default).bind fun r_10=>
 bif (bif (!decide (r_8.2=r_9.2))then true else(!r_10))then
 some false
 else
 (mO l).bind fun r_11=>
 (qi p r_1 r_11 parts).bind fun r_12=>
 (qc p s_ l parts).bind fun r_13=>
 (bif gB [((decide (r_12.2=r_13.2)),true)]then fw r_12.1 r_13.1 else some default).bind fun r_14=>
 (bif gB [((bif (decide (r_12.2=r_13.2))then r_14 else false),true)]then ic s_ r_1 else some default).bind fun r_15=>
 (bif gB [((bif (bif (decide (r_12.2=r_13.2))then r_14 else false)then r_15 else false),true)]then oK else some default).bind fun r_16=>
 some (bif (bif (bif (decide (r_12.2=r_13.2))then r_14 else false)then r_15 else false)then r_16 else false)
end Sg
