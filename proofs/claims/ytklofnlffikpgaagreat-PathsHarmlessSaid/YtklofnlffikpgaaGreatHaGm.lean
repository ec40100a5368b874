import Derived.Test.YtklofnlffikpgaaGreatHaLd
set_option linter.all false
namespace Sg
open Go
structure Source where
 bus:Int
 kind:Int
 power:Int
 sync:Int
 ohm:Int
instance:Inhabited Source:=⟨⟨default,default,default,default,default⟩⟩
def Source.cell (x:Source):Nat→DV
 |0=>(.int .i64 x.bus)
 |1=>(.int .i64 x.kind)
 |2=>(.int .i64 x.power)
 |3=>(.int .i64 x.sync)
 |4=>(.int .i64 x.ohm)
 |_=> .nilp
structure qd where
 amps:Int
 millis:Int
instance:Inhabited qd:=⟨⟨default,default⟩⟩
def qd.cell (x:qd):Nat→DV
 |0=>(.int .i64 x.amps)
 |1=>(.int .i64 x.millis)
 |_=> .nilp
structure Link where
 a:Int
 b:Int
 kind:Int
 most:Int
 ohm:Int
 trip:(List qd)
instance:Inhabited Link:=⟨⟨default,default,default,default,default,default⟩⟩
def Link.cell (x:Link):Nat→DV
 |0=>(.int .i64 x.a)
 |1=>(.int .i64 x.b)
 |2=>(.int .i64 x.kind)
 |3=>(.int .i64 x.most)
 |4=>(.int .i64 x.ohm)
 |5=>(aU none 2 qd.cell x.trip)
 |_=> .nilp
structure ah where
 e0:Int
 e1:Int
instance:Inhabited ah:=⟨⟨default,default⟩⟩
def ah.cell (x:ah):Nat→DV
 |0=>(.int .i64 x.e0)
 |1=>(.int .i64 x.e1)
 |_=> .nilp
structure aN where
 feeds:ah
 power:Int
 paths:Int
instance:Inhabited aN:=⟨⟨default,default,default⟩⟩
def aN.cell (x:aN):Nat→DV
 |0=>(.int .i64 x.feeds.e0)
 |1=>(.int .i64 x.feeds.e1)
 |2=>(.int .i64 x.power)
 |3=>(.int .i64 x.paths)
 |_=> .nilp
structure au where
 buses:Int
 sources:(List Source)
 links:(List Link)
 racks:(List aN)
instance:Inhabited au:=⟨⟨default,default,default,default⟩⟩
def au.cell (x:au):Nat→DV
 |0=>(.int .i64 x.buses)
 |1=>(aU none 5 Source.cell x.sources)
 |2=>(aU none 6 Link.cell x.links)
 |3=>(aU none 4 aN.cell x.racks)
 |_=> .nilp
structure State where
 closed:(List Bool)
 locked:(List Bool)
 badLink:(List Bool)
 on_:(List Bool)
 badSource:(List Bool)
 earthed:(List Bool)
 badBus:(List Bool)
instance:Inhabited State:=⟨⟨default,default,default,default,default,default,default⟩⟩
def State.cell (x:State):Nat→DV
 |0=>(aU none 1 af x.closed)
 |1=>(aU none 1 af x.locked)
 |2=>(aU none 1 af x.badLink)
 |3=>(aU none 1 af x.on_)
 |4=>(aU none 1 af x.badSource)
 |5=>(aU none 1 af x.earthed)
 |6=>(aU none 1 af x.badBus)
 |_=> .nilp
structure bM where
 l:(List Bool)
 n:Int
instance:Inhabited bM:=⟨⟨default,default⟩⟩
def bM.cell (x:bM):Nat→DV
 |0=>(aU none 1 af x.l)
 |1=>(.int .i64 x.n)
 |_=> .nilp
structure Transfer where
 watch:Int
 open_:Int
 close:Int
instance:Inhabited Transfer:=⟨⟨default,default,default⟩⟩
def Transfer.cell (x:Transfer):Nat→DV
 |0=>(.int .i64 x.watch)
 |1=>(.int .i64 x.open_)
 |2=>(.int .i64 x.close)
 |_=> .nilp
structure aS where
 head:(List (Int × Int))
instance:Inhabited aS:=⟨⟨default⟩⟩
def aS.cell (x:aS):Nat→DV
 |0=> .nilp
 |_=> .nilp
structure aD where
 buses:(List Int)
 sources:(List Int)
instance:Inhabited aD:=⟨⟨default,default⟩⟩
def aD.cell (x:aD):Nat→DV
 |0=>(aU none 1 (aB .i64) x.buses)
 |1=>(aU none 1 (aB .i64) x.sources)
 |_=> .nilp
structure Part where
 kind:Int
 index:Int
instance:Inhabited Part:=⟨⟨default,default⟩⟩
def Part.cell (x:Part):Nat→DV
 |0=>(.int .i64 x.kind)
 |1=>(.int .i64 x.index)
 |_=> .nilp
structure aA where
 e0:(List (Int × (List Int)))
 e1:(List (Int × (List Int)))
instance:Inhabited aA:=⟨⟨default,default⟩⟩
def aA.cell (x:aA):Nat→DV
 |0=> .nilp
 |1=> .nilp
 |_=> .nilp
structure Graph where
 parts:(List Part)
 arcs:aA
instance:Inhabited Graph:=⟨⟨default,default⟩⟩
def Graph.cell (x:Graph):Nat→DV
 |0=>(aU none 2 Part.cell x.parts)
 |1=> .nilp
 |2=> .nilp
 |_=> .nilp
structure bL where
 e0:Bool
 e1:Bool
instance:Inhabited bL:=⟨⟨default,default⟩⟩
def bL.cell (x:bL):Nat→DV
 |0=>(.bool x.e0)
 |1=>(.bool x.e1)
 |_=> .nilp
structure Ho where
 rack:Int
 part:Part
instance:Inhabited Ho:=⟨⟨default,default⟩⟩
def Ho.cell (x:Ho):Nat→DV
 |0=>(.int .i64 x.rack)
 |1=>(.int .i64 x.part.kind)
 |2=>(.int .i64 x.part.index)
 |_=> .nilp
def aD.ev (x:aD):Nat→EV
 |0=> .row 3 1 x.buses.length (av (aB .i64) x.buses)
 |1=> .row 3 1 x.sources.length (av (aB .i64) x.sources)
 |_=> .d .nilp
def aK (n:Int) (first:Int) (last:Int):Option Bool:=
 some (bif (decide (first≤n))then(decide (n≤last))else false)
def nZ (p:au):Option (Int × (List Source) × (List Link) × (List aN)):=
 some (p.buses,p.sources,p.links,p.racks)
def rF (p:au):Option (Int × (List Source) × (List Link) × (List aN)):=
 some (p.buses,p.sources,p.links,p.racks)
def rA (p:au):Option (Int × (List Source) × (List Link) × (List aN)):=
 some (p.buses,p.sources,p.links,p.racks)
def jw (x:Source) (x1:Int) (x11:(List Source)) (x12:(List Link)) (x13:(List aN)):Option Bool:=
 (aK x.bus 0 (IntKind.wrap .i64 (x1 - 1))).bind fun r_=>
 (bif gB [(r_,true)]then aK x.kind 1 3 else some default).bind fun r_1=>
 (bif gB [((bif r_ then r_1 else false),true)]then aK x.power 1 100000 else some default).bind fun r_2=>
 (bif gB [((bif (bif r_ then r_1 else false)then r_2 else false),true)]then aK x.sync 0 8 else some default).bind fun r_3=>
 (bif gB [((bif (bif (bif r_ then r_1 else false)then r_2 else false)then r_3 else false),true)]then aK x.ohm 10 100000 else some default).bind fun r_4=>
 some (bif (bif (bif (bif r_ then r_1 else false)then r_2 else false)then r_3 else false)then r_4 else false)
def og (x:Source) (x1:Int) (x11:(List Source)) (x12:(List Link)) (x13:(List aN)):Option Bool:=
 (jw x x1 x11 x12 x13).bind fun r_=>
 some (!r_)
def iL (s_:(List Source)) (f_:Int) (f_1:(List Source)) (f_2:(List Link)) (f_3:(List aN)):Int→Option (bA Int (Ex Unit Int)):=
 fun t8=>
 bif (decide (t8<(s_.length:Int)))then
 (og (at' s_ t8.toNat) f_ f_1 f_2 f_3).bind fun r_=>
 dh ((0:Int)≤t8∧t8<(s_.length:Int)) (
 bif r_ then
 some (.done (.ret t8))
 else
 some (.next (IntKind.wrap .i64 (t8+1))))
 else
 some (.done (.brk ()))
def jS (s_:(List Source)) (f_:Int) (f_1:(List Source)) (f_2:(List Link)) (f_3:(List aN)):Option Int:=
 Option.bind (aJ (iL s_ f_ f_1 f_2 f_3) FUEL (0)) fun o=>match o with
 | .ret v=>some v
 | .brk _=>
 some (-1)
def fH (s_:(List Source)) (f_:Int) (f_1:(List Source)) (f_2:(List Link)) (f_3:(List aN)):Option Bool:=
 (jS s_ f_ f_1 f_2 f_3).bind fun r_=>
 some (decide (0≤r_))
def nk (l:(List Source)) (most:Int) (right:Int) (right1:(List Source)) (right2:(List Link)) (right3:(List aN)):Option Bool:=
 (bif gB [((decide ((l.length:Int)≤most)),true)]then fH l right right1 right2 right3 else some default).bind fun r_=>
 some (bif (decide ((l.length:Int)≤most))then(!r_)else false)
def iT (x:Link):Int→Option (bA Int (Ex Unit Bool)):=
 fun t50=>
 bif (decide (t50<(x.trip.length:Int)))then
 dh ((0:Int)≤t50∧t50<(x.trip.length:Int)) (
 (aK ((at' x.trip t50.toNat).amps) 1 1000000).bind fun r_5=>
 (bif gB [((!r_5),false)]then aK ((at' x.trip t50.toNat).millis) 1 100000 else some default).bind fun r_6=>
 dh ((gB [((decide (0<t50)),true),((bif (!r_5)then true else(!r_6)),false)]=true→(0:Int)≤(IntKind.wrap .i64 (t50 - 1))∧(IntKind.wrap .i64 (t50 - 1))<(x.trip.length:Int))∧(gB [((decide (((at' x.trip t50.toNat).amps)≤((at' x.trip ((IntKind.wrap .i64 (t50 - 1)).toNat)).amps))),false),((decide (0<t50)),true),((bif (!r_5)then true else(!r_6)),false)]=true→(0:Int)≤(IntKind.wrap .i64 (t50 - 1))∧(IntKind.wrap .i64 (t50 - 1))<(x.trip.length:Int))) (
 bif (bif (bif (!r_5)then true else(!r_6))then true else(bif (decide (0<t50))then(bif (decide (((at' x.trip t50.toNat).amps)≤((at' x.trip ((IntKind.wrap .i64 (t50 - 1)).toNat)).amps)))then true else(decide (((at' x.trip ((IntKind.wrap .i64 (t50 - 1)).toNat)).millis)≤((at' x.trip t50.toNat).millis))))else false))then
 some (.done (.ret false))
 else
 some (.next (IntKind.wrap .i64 (t50+1)))))
 else
 some (.done (.brk ()))
def ko (x:Link) (x1:Int) (x11:(List Source)) (x12:(List Link)) (x13:(List aN)):Option Bool:=
 (aK x.a 0 (IntKind.wrap .i64 (x1 - 1))).bind fun r_=>
 (bif gB [((!r_),false)]then aK x.b 0 (IntKind.wrap .i64 (x1 - 1))else some default).bind fun r_1=>
 (bif gB [((bif (bif (!r_)then true else(!r_1))then true else(decide (x.a=x.b))),false)]then aK x.kind 1 3 else some default).bind fun r_2=>
 (bif gB [((bif (bif (bif (!r_)then true else(!r_1))then true else(decide (x.a=x.b)))then true else(!r_2)),false)]then aK x.most 1 100000 else some default).bind fun r_3=>
 (bif gB [((bif (bif (bif (bif (!r_)then true else(!r_1))then true else(decide (x.a=x.b)))then true else(!r_2))then true else(!r_3)),false)]then aK x.ohm 10 100000 else some default).bind fun r_4=>
 bif (bif (bif (bif (bif (bif (!r_)then true else(!r_1))then true else(decide (x.a=x.b)))then true else(!r_2))then true else(!r_3))then true else(!r_4))then
 some false
 else
 Option.bind (aJ (iT x) FUEL (0)) fun o=>match o with
 | .ret v=>some v
 | .brk _=>
 some (bif (decide ((x.trip.length:Int)≤6))then(bif (decide ((x.trip.length:Int)=0))then true else(decide (x.kind=3)))else false)
def ku (x:Link) (x1:Int) (x11:(List Source)) (x12:(List Link)) (x13:(List aN)):Option Bool:=
 (ko x x1 x11 x12 x13).bind fun r_=>
 some (!r_)
def gG (s_:(List Link)) (f_:Int) (f_1:(List Source)) (f_2:(List Link)) (f_3:(List aN)):Int→Option (bA Int (Ex Unit Int)):=
 fun t8=>
 bif (decide (t8<(s_.length:Int)))then
 (ku (at' s_ t8.toNat) f_ f_1 f_2 f_3).bind fun r_=>
 dh ((0:Int)≤t8∧t8<(s_.length:Int)) (
 bif r_ then
 some (.done (.ret t8))
 else
 some (.next (IntKind.wrap .i64 (t8+1))))
 else
 some (.done (.brk ()))
def iN (s_:(List Link)) (f_:Int) (f_1:(List Source)) (f_2:(List Link)) (f_3:(List aN)):Option Int:=
 Option.bind (aJ (gG s_ f_ f_1 f_2 f_3) FUEL (0)) fun o=>match o with
 | .ret v=>some v
 | .brk _=>
 some (-1)
def d9 (s_:(List Link)) (f_:Int) (f_1:(List Source)) (f_2:(List Link)) (f_3:(List aN)):Option Bool:=
 (iN s_ f_ f_1 f_2 f_3).bind fun r_=>
 some (decide (0≤r_))
def kW (l:(List Link)) (most:Int) (right:Int) (right1:(List Source)) (right2:(List Link)) (right3:(List aN)):Option Bool:=
 (bif gB [((decide ((l.length:Int)≤most)),true)]then d9 l right right1 right2 right3 else some default).bind fun r_=>
 some (bif (decide ((l.length:Int)≤most))then(!r_)else false)
def lU (x:aN):Option Int:=
 bif (decide (x.feeds.e1=(-1)))then
 some 1
 else
 some 2
def kU (x:aN) (x1:Int) (x11:(List Source)) (x12:(List Link)) (x13:(List aN)):Option Bool:=
 (aK x.feeds.e0 0 (IntKind.wrap .i64 (x1 - 1))).bind fun r_=>
 (bif gB [(r_,true)]then aK x.feeds.e1 (-1) (IntKind.wrap .i64 (x1 - 1))else some default).bind fun r_1=>
 (bif gB [((bif (bif r_ then r_1 else false)then(!decide (x.feeds.e0=x.feeds.e1))else false),true)]then aK x.power 1 100000 else some default).bind fun r_2=>
 (bif gB [((bif (bif (bif r_ then r_1 else false)then(!decide (x.feeds.e0=x.feeds.e1))else false)then r_2 else false),true)]then lU x else some default).bind fun r_3=>
 (bif gB [((bif (bif (bif r_ then r_1 else false)then(!decide (x.feeds.e0=x.feeds.e1))else false)then r_2 else false),true)]then aK x.paths 0 r_3 else some default).bind fun r_4=>
 some (bif (bif (bif (bif r_ then r_1 else false)then(!decide (x.feeds.e0=x.feeds.e1))else false)then r_2 else false)then r_4 else false)
def kQ (x:aN) (x1:Int) (x11:(List Source)) (x12:(List Link)) (x13:(List aN)):Option Bool:=
 (kU x x1 x11 x12 x13).bind fun r_=>
 some (!r_)
def gI (s_:(List aN)) (f_:Int) (f_1:(List Source)) (f_2:(List Link)) (f_3:(List aN)):Int→Option (bA Int (Ex Unit Int)):=
 fun t8=>
 bif (decide (t8<(s_.length:Int)))then
 (kQ (⟨((at' s_ t8.toNat).feeds),(at' s_ t8.toNat).power,(at' s_ t8.toNat).paths⟩:aN) f_ f_1 f_2 f_3).bind fun r_=>
 dh ((0:Int)≤t8∧t8<(s_.length:Int)) (
 bif r_ then
 some (.done (.ret t8))
 else
 some (.next (IntKind.wrap .i64 (t8+1))))
 else
 some (.done (.brk ()))
def iM (s_:(List aN)) (f_:Int) (f_1:(List Source)) (f_2:(List Link)) (f_3:(List aN)):Option Int:=
 Option.bind (aJ (gI s_ f_ f_1 f_2 f_3) FUEL (0)) fun o=>match o with
 | .ret v=>some v
 | .brk _=>
 some (-1)
def eu (s_:(List aN)) (f_:Int) (f_1:(List Source)) (f_2:(List Link)) (f_3:(List aN)):Option Bool:=
 (iM s_ f_ f_1 f_2 f_3).bind fun r_=>
 some (decide (0≤r_))
def kF (l:(List aN)) (most:Int) (right:Int) (right1:(List Source)) (right2:(List Link)) (right3:(List aN)):Option Bool:=
 (bif gB [((decide ((l.length:Int)≤most)),true)]then eu l right right1 right2 right3 else some default).bind fun r_=>
 some (bif (decide ((l.length:Int)≤most))then(!r_)else false)
def jO (p:au):Option Int:=
 (aK p.buses 1 24).bind fun r_=>
 bif (!r_)then
 some 10
 else
 (nZ p).bind fun r_1=>
 (nk p.sources 8 r_1.1 r_1.2.1 r_1.2.2.1 r_1.2.2.2).bind fun r_2=>
 bif (!r_2)then
 some 11
 else
 (rF p).bind fun r_3=>
 (kW p.links 40 r_3.1 r_3.2.1 r_3.2.2.1 r_3.2.2.2).bind fun r_4=>
 bif (!r_4)then
 some 12
 else
 (rA p).bind fun r_5=>
 (kF p.racks 24 r_5.1 r_5.2.1 r_5.2.2.1 r_5.2.2.2).bind fun r_6=>
 bif (!r_6)then
 some 13
 else
 some 0
def fK (p:au) (s_:State):Int→Option (bA Int (Ex Unit Int)):=
 fun t55=>
 bif (decide (t55<([(⟨s_.closed,(p.links.length:Int)⟩:bM),(⟨s_.locked,(p.links.length:Int)⟩:bM),(⟨s_.badLink,(p.links.length:Int)⟩:bM),(⟨s_.on_,(p.sources.length:Int)⟩:bM),(⟨s_.badSource,(p.sources.length:Int)⟩:bM),(⟨s_.earthed,p.buses⟩:bM),(⟨s_.badBus,p.buses⟩:bM)].length:Int)))then
 dh ((0:Int)≤t55∧t55<([(⟨s_.closed,(p.links.length:Int)⟩:bM),(⟨s_.locked,(p.links.length:Int)⟩:bM),(⟨s_.badLink,(p.links.length:Int)⟩:bM),(⟨s_.on_,(p.sources.length:Int)⟩:bM),(⟨s_.badSource,(p.sources.length:Int)⟩:bM),(⟨s_.earthed,p.buses⟩:bM),(⟨s_.badBus,p.buses⟩:bM)].length:Int)) (
 bif (!decide ((((at' [(⟨s_.closed,(p.links.length:Int)⟩:bM),(⟨s_.locked,(p.links.length:Int)⟩:bM),(⟨s_.badLink,(p.links.length:Int)⟩:bM),(⟨s_.on_,(p.sources.length:Int)⟩:bM),(⟨s_.badSource,(p.sources.length:Int)⟩:bM),(⟨s_.earthed,p.buses⟩:bM),(⟨s_.badBus,p.buses⟩:bM)] t55.toNat).l).length:Int)=((at' [(⟨s_.closed,(p.links.length:Int)⟩:bM),(⟨s_.locked,(p.links.length:Int)⟩:bM),(⟨s_.badLink,(p.links.length:Int)⟩:bM),(⟨s_.on_,(p.sources.length:Int)⟩:bM),(⟨s_.badSource,(p.sources.length:Int)⟩:bM),(⟨s_.earthed,p.buses⟩:bM),(⟨s_.badBus,p.buses⟩:bM)] t55.toNat).n)))then
 some (.done (.ret 9))
 else
 some (.next (IntKind.wrap .i64 (t55+1))))
 else
 some (.done (.brk ()))
def fG (p:au) (s_:State):Int→Option (bA Int (Ex Unit Int)):=
 fun t69=>
 bif (decide (t69<(p.links.length:Int)))then
 dh ((0:Int)≤t69∧t69<(p.links.length:Int)) (
 dh ((gB [((decide (((at' p.links t69.toNat).kind)=1)),true)]=true→(0:Int)≤t69∧t69<(s_.closed.length:Int))∧(gB [((!(at' s_.closed t69.toNat)),false),((decide (((at' p.links t69.toNat).kind)=1)),true)]=true→(0:Int)≤t69∧t69<(s_.locked.length:Int))) (
 bif (bif (decide (((at' p.links t69.toNat).kind)=1))then(bif (!(at' s_.closed t69.toNat))then true else(at' s_.locked t69.toNat))else false)then
 some (.done (.ret 9))
 else
 some (.next (IntKind.wrap .i64 (t69+1)))))
 else
 some (.done (.brk ()))
def bP (p:au) (s_:State):Option Int:=
 (jO p).bind fun r_=>
 bif (!decide (r_=0))then
 some r_
 else
 Option.bind (aJ (fK p s_) FUEL (0)) fun o=>match o with
 | .ret v=>some v
 | .brk _=>
 Option.bind (aJ (fG p s_) FUEL (0)) fun o=>match o with
 | .ret v=>some v
 | .brk _=>
 some 0
def dP (i:Int) (x1:Int) (x11:(List Source)) (x12:(List Link)) (x13:(List aN)):Option Bool:=
 dh (gB [((bif (decide (0≤i))then(decide (i<(x12.length:Int)))else false),true)]=true→(0:Int)≤i∧i<(x12.length:Int)) (
 some (bif (bif (decide (0≤i))then(decide (i<(x12.length:Int)))else false)then(!decide (((at' x12 i.toNat).kind)=1))else false))
def eG (x:Transfer) (x1:Int) (x11:(List Source)) (x12:(List Link)) (x13:(List aN)) (x2:Int) (x21:(List Source)) (x22:(List Link)) (x23:(List aN)):Option Bool:=
 (bif gB [((bif (decide (x.watch<0))then true else(decide (x1≤x.watch))),false)]then dP x.close x2 x21 x22 x23 else some default).bind fun r_=>
 (bif gB [((!decide (x.open_=(-1))),true),((bif (bif (decide (x.watch<0))then true else(decide (x1≤x.watch)))then true else(!r_)),false)]then dP x.open_ x2 x21 x22 x23 else some default).bind fun r_1=>
 some (bif (bif (bif (decide (x.watch<0))then true else(decide (x1≤x.watch)))then true else(!r_))then true else(bif (!decide (x.open_=(-1)))then(bif (!r_1)then true else(decide (x.open_=x.close)))else false))
def gJ (s_:(List Transfer)) (f_:Int) (f_1:(List Source)) (f_2:(List Link)) (f_3:(List aN)) (f_4:Int) (f_5:(List Source)) (f_6:(List Link)) (f_7:(List aN)):Int→Option (bA Int (Ex Unit Int)):=
 fun t8=>
 bif (decide (t8<(s_.length:Int)))then
 (eG (at' s_ t8.toNat) f_ f_1 f_2 f_3 f_4 f_5 f_6 f_7).bind fun r_=>
 dh ((0:Int)≤t8∧t8<(s_.length:Int)) (
 bif r_ then
 some (.done (.ret t8))
 else
 some (.next (IntKind.wrap .i64 (t8+1))))
 else
 some (.done (.brk ()))
def iJ (s_:(List Transfer)) (f_:Int) (f_1:(List Source)) (f_2:(List Link)) (f_3:(List aN)) (f_4:Int) (f_5:(List Source)) (f_6:(List Link)) (f_7:(List aN)):Option Int:=
 Option.bind (aJ (gJ s_ f_ f_1 f_2 f_3 f_4 f_5 f_6 f_7) FUEL (0)) fun o=>match o with
 | .ret v=>some v
 | .brk _=>
 some (-1)
def eD (s_:(List Transfer)) (f_:Int) (f_1:(List Source)) (f_2:(List Link)) (f_3:(List aN)) (f_4:Int) (f_5:(List Source)) (f_6:(List Link)) (f_7:(List aN)):Option Bool:=
 (iJ s_ f_ f_1 f_2 f_3 f_4 f_5 f_6 f_7).bind fun r_=>
 some (decide (0≤r_))
def dY (p:au) (s_:State) (l:(List Transfer)):Option Int:=
 (bP p s_).bind fun r_=>
 bif (!decide (r_=0))then
 some r_
 else
 (bif gB [((decide (16<(l.length:Int))),false)]then eD l p.buses p.sources p.links p.racks p.buses p.sources p.links p.racks else some default).bind fun r_1=>
 bif (bif (decide (16<(l.length:Int)))then true else r_1)then
 some 1
 else
 some 0
def oQ (s_:(List Bool)) (s_nn:Bool):Option (List Bool):=
 bif (!s_nn)then
 some ([]:List Bool)
 else
 dh (((([]:List Bool).length+s_.length)*1≤140737488355328)∧(([]:List Bool).length+s_.length≤4611686018427387904)) (
 some (([]:List Bool)++s_))
def aP (s:(List Bool)):Option (List Bool):=oQ s true
def kI (s_:State):Option State:=
 dh ((0:Int)≤0∧0<(7:Int)) (
 (aP s_.closed).bind fun r_=>
 dh ((0:Int)≤1∧1<(7:Int)) (
 (aP s_.locked).bind fun r_1=>
 dh ((0:Int)≤2∧2<(7:Int)) (
 (aP s_.badLink).bind fun r_2=>
 dh ((0:Int)≤3∧3<(7:Int)) (
 (aP s_.on_).bind fun r_3=>
 dh ((0:Int)≤4∧4<(7:Int)) (
 (aP s_.badSource).bind fun r_4=>
 dh ((0:Int)≤5∧5<(7:Int)) (
 (aP s_.earthed).bind fun r_5=>
 dh ((0:Int)≤6∧6<(7:Int)) (
 (aP s_.badBus).bind fun r_6=>
 some (⟨r_,r_1,r_2,r_3,r_4,r_5,r_6⟩:State))))))))
def kT (p:au) (s_:State) (l:(List Transfer)):Option ((List Transfer) × Int × (List Source) × (List Link) × (List aN) × State):=
 some (l,p.buses,p.sources,p.links,p.racks,s_)
def iB (p:au) (s_:State):Option (Int × (List Source) × (List Link) × (List aN) × (List Bool) × (List Bool) × (List Bool) × (List Bool) × (List Bool) × (List Bool) × (List Bool)):=
 some (p.buses,p.sources,p.links,p.racks,s_.closed,s_.locked,s_.badLink,s_.on_,s_.badSource,s_.earthed,s_.badBus)
def dN (g:aS):Int→Option (bA Int (Ex Unit Int)):=
 fun x1=>
 bif (!((aQ bO x1 g.head).isSome))then
 some (.done (.ret x1))
 else
 some (.next ((aQ bO x1 g.head).getD 0))
def bN (g:aS) (x:Int):Option Int:=
 Option.bind (aJ (dN g) FUEL (x)) fun o=>match o with
 | .ret v=>some v
 | .brk _=>none
def gT (g:aS) (a:Int) (b:Int):Option (List (Int × Int)):=
 (bN g a).bind fun r_=>
 (bN g b).bind fun r_1=>
 bif (!decide (r_=r_1))then
 some (fe bO r_ r_1 g.head)
 else
 some g.head
def iX (x22:Int) (x221:Int) (x222:Int) (x223:Int) (x224:Int) (x225:(List qd)) (o_:aS):Option aS:=
 (gT o_ x22 x221).bind fun r_=>
 some (⟨r_⟩:aS)
def bX (x12:(List Link)) (x2:(List Bool)) (x22:(List Bool)) (x26:(List Bool)):((List (Int × Int)) × Int)→Option (bA ((List (Int × Int)) × Int) (Ex (List (Int × Int)) aS)):=
 fun zz=>match zz with
 |(o50,t9)=>
 bif (decide (t9<(x12.length:Int)))then
 dh ((0:Int)≤t9∧t9<(x12.length:Int)) (
 bif (bif (bif (bif (at' x2 t9.toNat)then(!(at' x22 t9.toNat))else false)then(!(at' x26 (((at' x12 t9.toNat).a).toNat)))else false)then(!(at' x26 (((at' x12 t9.toNat).b).toNat)))else false)then
 (iX ((at' x12 t9.toNat).a) ((at' x12 t9.toNat).b) ((at' x12 t9.toNat).kind) ((at' x12 t9.toNat).most) ((at' x12 t9.toNat).ohm) ((at' x12 t9.toNat).trip) (⟨o50⟩:aS)).bind fun r_=>
 dh (((0:Int)≤t9∧t9<(x2.length:Int))∧(gB [((at' x2 t9.toNat),true)]=true→(0:Int)≤t9∧t9<(x22.length:Int))∧(gB [((bif (at' x2 t9.toNat)then(!(at' x22 t9.toNat))else false),true)]=true→(0:Int)≤(at' x12 t9.toNat).a∧(at' x12 t9.toNat).a<(x26.length:Int))∧(gB [((bif (bif (at' x2 t9.toNat)then(!(at' x22 t9.toNat))else false)then(!(at' x26 (((at' x12 t9.toNat).a).toNat)))else false),true)]=true→(0:Int)≤(at' x12 t9.toNat).b∧(at' x12 t9.toNat).b<(x26.length:Int))) (
 some (.next (r_.head,(IntKind.wrap .i64 (t9+1)))))
 else
 dh (((0:Int)≤t9∧t9<(x2.length:Int))∧(gB [((at' x2 t9.toNat),true)]=true→(0:Int)≤t9∧t9<(x22.length:Int))∧(gB [((bif (at' x2 t9.toNat)then(!(at' x22 t9.toNat))else false),true)]=true→(0:Int)≤(at' x12 t9.toNat).a∧(at' x12 t9.toNat).a<(x26.length:Int))∧(gB [((bif (bif (at' x2 t9.toNat)then(!(at' x22 t9.toNat))else false)then(!(at' x26 (((at' x12 t9.toNat).a).toNat)))else false),true)]=true→(0:Int)≤(at' x12 t9.toNat).b∧(at' x12 t9.toNat).b<(x26.length:Int))) (
 some (.next (o50,(IntKind.wrap .i64 (t9+1))))))
 else
 some (.done (.brk o50))
def iZ (x1:Int) (x11:(List Source)) (x12:(List Link)) (x13:(List aN)) (x2:(List Bool)) (x21:(List Bool)) (x22:(List Bool)) (x23:(List Bool)) (x24:(List Bool)) (x25:(List Bool)) (x26:(List Bool)) (o_:aS):Option aS:=
 Option.bind (aJ (bX x12 x2 x22 x26) FUEL (o_.head,0)) fun o=>match o with
 | .ret v=>some v
 | .brk o501=>
 some (⟨o501⟩:aS)
def bg (p:au) (s_:State) (r_1:aS):((List aD) × (List (Int × Int)) × Int)→Option (bA ((List aD) × (List (Int × Int)) × Int) (Ex ((List aD) × (List (Int × Int))) (List aD))):=
 fun zz=>match zz with
 |(out,at_,t32)=>
 bif (decide (t32<p.buses))then
 dh ((0:Int)≤t32∧t32<(s_.badBus.length:Int)) (
 bif (at' s_.badBus t32.toNat)then
 some (.next (out,at_,(IntKind.wrap .i64 (t32+1))))
 else
 (bN r_1 t32).bind fun r_2=>
 bif (!((aQ bO r_2 at_).isSome))then
 dh (((out.length+[(⟨([]:List Int),([]:List Int)⟩:aD)].length)*48≤140737488355328)∧(out.length+[(⟨([]:List Int),([]:List Int)⟩:aD)].length≤4611686018427387904)) (
 dh (((0:Int)≤((aQ bO r_2 (fe bO r_2 (out.length:Int) at_)).getD 0)∧((aQ bO r_2 (fe bO r_2 (out.length:Int) at_)).getD 0)<((out++[(⟨([]:List Int),([]:List Int)⟩:aD)]).length:Int))∧((((at' (out++[(⟨([]:List Int),([]:List Int)⟩:aD)]) (((aQ bO r_2 (fe bO r_2 (out.length:Int) at_)).getD 0).toNat)).buses).length+[t32].length)*8≤140737488355328)∧(((at' (out++[(⟨([]:List Int),([]:List Int)⟩:aD)]) (((aQ bO r_2 (fe bO r_2 (out.length:Int) at_)).getD 0).toNat)).buses).length+[t32].length≤4611686018427387904)) (
 some (.next (((out++[(⟨([]:List Int),([]:List Int)⟩:aD)]).set (((aQ bO r_2 (fe bO r_2 (out.length:Int) at_)).getD 0).toNat) (⟨(((at' (out++[(⟨([]:List Int),([]:List Int)⟩:aD)]) (((aQ bO r_2 (fe bO r_2 (out.length:Int) at_)).getD 0).toNat)).buses)++[t32]),(at' (out++[(⟨([]:List Int),([]:List Int)⟩:aD)]) (((aQ bO r_2 (fe bO r_2 (out.length:Int) at_)).getD 0).toNat)).sources⟩:aD)),(fe bO r_2 (out.length:Int) at_),(IntKind.wrap .i64 (t32+1))))))
 else
 dh (((0:Int)≤((aQ bO r_2 at_).getD 0)∧((aQ bO r_2 at_).getD 0)<(out.length:Int))∧((((at' out (((aQ bO r_2 at_).getD 0).toNat)).buses).length+[t32].length)*8≤140737488355328)∧(((at' out (((aQ bO r_2 at_).getD 0).toNat)).buses).length+[t32].length≤4611686018427387904)) (
 some (.next ((out.set (((aQ bO r_2 at_).getD 0).toNat) (⟨(((at' out (((aQ bO r_2 at_).getD 0).toNat)).buses)++[t32]),(at' out (((aQ bO r_2 at_).getD 0).toNat)).sources⟩:aD)),at_,(IntKind.wrap .i64 (t32+1))))))
 else
 some (.done (.brk (out,at_)))
def bn (p:au) (s_:State) (r_1:aS) (at_1:(List (Int × Int))):((List aD) × Int)→Option (bA ((List aD) × Int) (Ex (List aD) (List aD))):=
 fun zz=>match zz with
 |(out2,t78)=>
 bif (decide (t78<(p.sources.length:Int)))then
 dh ((0:Int)≤t78∧t78<(p.sources.length:Int)) (
 dh (((0:Int)≤t78∧t78<(s_.on_.length:Int))∧(gB [((at' s_.on_ t78.toNat),true)]=true→(0:Int)≤t78∧t78<(s_.badSource.length:Int))∧(gB [((bif (at' s_.on_ t78.toNat)then(!(at' s_.badSource t78.toNat))else false),true)]=true→(0:Int)≤(at' p.sources t78.toNat).bus∧(at' p.sources t78.toNat).bus<(s_.badBus.length:Int))) (
 bif (bif (bif (at' s_.on_ t78.toNat)then(!(at' s_.badSource t78.toNat))else false)then(!(at' s_.badBus (((at' p.sources t78.toNat).bus).toNat)))else false)then
 (bN r_1 ((at' p.sources t78.toNat).bus)).bind fun r_3=>
 dh (((0:Int)≤((aQ bO r_3 at_1).getD 0)∧((aQ bO r_3 at_1).getD 0)<(out2.length:Int))∧((((at' out2 (((aQ bO r_3 at_1).getD 0).toNat)).sources).length+[t78].length)*8≤140737488355328)∧(((at' out2 (((aQ bO r_3 at_1).getD 0).toNat)).sources).length+[t78].length≤4611686018427387904)) (
 some (.next ((out2.set (((aQ bO r_3 at_1).getD 0).toNat) (⟨(at' out2 (((aQ bO r_3 at_1).getD 0).toNat)).buses,(((at' out2 (((aQ bO r_3 at_1).getD 0).toNat)).sources)++[t78])⟩:aD)),(IntKind.wrap .i64 (t78+1)))))
 else
 some (.next (out2,(IntKind.wrap .i64 (t78+1))))))
 else
 some (.done (.brk out2))
def eU (p:au) (s_:State):Option (List aD):=
 (iB p s_).bind fun r_=>
 (iZ r_.1 r_.2.1 r_.2.2.1 r_.2.2.2.1 r_.2.2.2.2.1 r_.2.2.2.2.2.1 r_.2.2.2.2.2.2.1 r_.2.2.2.2.2.2.2.1 r_.2.2.2.2.2.2.2.2.1 r_.2.2.2.2.2.2.2.2.2.1 r_.2.2.2.2.2.2.2.2.2.2 (⟨([]:(List (Int × Int)))⟩:aS)).bind fun r_1=>
 Option.bind (aJ (bg p s_ r_1) FUEL (([]:List aD),([]:(List (Int × Int))),0)) fun o=>match o with
 | .ret v=>some v
 | .brk (out1,at_1)=>
 Option.bind (aJ (bn p s_ r_1 at_1) FUEL (out1,0)) fun o=>match o with
 | .ret v=>some v
 | .brk out3=>
 some out3
def iG (r_1:(List aD)) (t25:Int):((List Bool) × Int)→Option (bA ((List Bool) × Int) (Ex (List Bool) (bA ((List Bool) × Int) (Ex (List Bool) ((List Bool) × Int))))):=
 fun zz=>match zz with
 |(out2,t32)=>
 bif (decide (t32<(((at' r_1 t25.toNat).buses).length:Int)))then
 dh ((0:Int)≤t32∧t32<(((at' r_1 t25.toNat).buses).length:Int)) (
 dh ((0:Int)≤(at' ((at' r_1 t25.toNat).buses) t32.toNat)∧(at' ((at' r_1 t25.toNat).buses) t32.toNat)<(out2.length:Int)) (
 some (.next ((out2.set ((at' ((at' r_1 t25.toNat).buses) t32.toNat).toNat) (decide (0<(((at' r_1 t25.toNat).sources).length:Int)))),(IntKind.wrap .i64 (t32+1))))))
 else
 some (.done (.brk out2))
def iF (r_1:(List aD)):((List Bool) × Int)→Option (bA ((List Bool) × Int) (Ex (List Bool) ((List Bool) × Int))):=
 fun zz=>match zz with
 |(out,t25)=>
 bif (decide (t25<(r_1.length:Int)))then
 dh ((0:Int)≤t25∧t25<(r_1.length:Int)) (
 Option.bind (aJ (iG r_1 t25) FUEL (out,0)) fun o=>match o with
 | .ret v=>some v
 | .brk out3=>
 some (.next (out3,(IntKind.wrap .i64 (t25+1)))))
 else
 some (.done (.brk out))
def cO (p:au) (s_:State):Option ((List Bool) × Int):=
 (bP p s_).bind fun r_=>
 bif (!decide (r_=0))then
 some (([]:List Bool),r_)
 else
 dh (((0:Int)≤p.buses)∧((1:Int)*p.buses≤281474976710656)∧((p.buses:Int)≤9223372036854775807)) (
 (eU p s_).bind fun r_1=>
 Option.bind (aJ (iF r_1) FUEL ((List.replicate p.buses.toNat (false:Bool)),0)) fun o=>match o with
 | .ret v=>some v
 | .brk out1=>
 some (out1,0))
def bC (x y:ah):Int:=if x.e0<y.e0 then -1 else if y.e0<x.e0 then 1 else if x.e1<y.e1 then -1 else if y.e1<x.e1 then 1 else 0
def fZ (s:(List ah)):Option (List ah):=match s with
 |[]=>some []
 |x::xs=>bif decide ((x::xs).length<4611686018427387904)then some ((x::xs).mergeSort fun x y=> !decide (bC y x<0))else none
def iy (p:au) (r_1:(List aD)) (t24:Int) (t31:Int):((List ah) × Int)→Option (bA ((List ah) × Int) (Ex (List ah) (bA ((List ah) × Int) (Ex (List ah) (bA ((List ah) × Int) (Ex (List ah) ((List ah) × Int))))))):=
 fun zz=>match zz with
 |(out4,t42)=>
 bif (decide (t42<(((((at' r_1 t24.toNat).sources).length - ((IntKind.wrap .i64 (t31+1)).toNat)):Nat):Int)))then
 dh ((0:Int)≤t42∧t42<((((at' r_1 t24.toNat).sources).drop ((IntKind.wrap .i64 (t31+1)).toNat)).length:Int)) (
 dh (((0:Int)≤(at' ((at' r_1 t24.toNat).sources) t31.toNat)∧(at' ((at' r_1 t24.toNat).sources) t31.toNat)<(p.sources.length:Int))∧(gB [((decide (((at' p.sources ((at' ((at' r_1 t24.toNat).sources) t31.toNat).toNat)).sync)=0)),false)]=true→(0:Int)≤(at' ((at' r_1 t24.toNat).sources) t31.toNat)∧(at' ((at' r_1 t24.toNat).sources) t31.toNat)<(p.sources.length:Int))∧(gB [((decide (((at' p.sources ((at' ((at' r_1 t24.toNat).sources) t31.toNat).toNat)).sync)=0)),false)]=true→(0:Int)≤(at' (((at' r_1 t24.toNat).sources).drop ((IntKind.wrap .i64 (t31+1)).toNat)) t42.toNat)∧(at' (((at' r_1 t24.toNat).sources).drop ((IntKind.wrap .i64 (t31+1)).toNat)) t42.toNat)<(p.sources.length:Int))) (
 bif (bif (decide (((at' p.sources ((at' ((at' r_1 t24.toNat).sources) t31.toNat).toNat)).sync)=0))then true else(!decide (((at' p.sources ((at' ((at' r_1 t24.toNat).sources) t31.toNat).toNat)).sync)=((at' p.sources ((at' (((at' r_1 t24.toNat).sources).drop ((IntKind.wrap .i64 (t31+1)).toNat)) t42.toNat).toNat)).sync))))then
 dh (((out4.length+[(⟨(at' ((at' r_1 t24.toNat).sources) t31.toNat),(at' (((at' r_1 t24.toNat).sources).drop ((IntKind.wrap .i64 (t31+1)).toNat)) t42.toNat)⟩:ah)].length)*16≤140737488355328)∧(out4.length+[(⟨(at' ((at' r_1 t24.toNat).sources) t31.toNat),(at' (((at' r_1 t24.toNat).sources).drop ((IntKind.wrap .i64 (t31+1)).toNat)) t42.toNat)⟩:ah)].length≤4611686018427387904)) (
 some (.next ((out4++[(⟨(at' ((at' r_1 t24.toNat).sources) t31.toNat),(at' (((at' r_1 t24.toNat).sources).drop ((IntKind.wrap .i64 (t31+1)).toNat)) t42.toNat)⟩:ah)]),(IntKind.wrap .i64 (t42+1)))))
 else
 some (.next (out4,(IntKind.wrap .i64 (t42+1))))))
 else
 some (.done (.brk out4))
def iA (p:au) (r_1:(List aD)) (t24:Int):((List ah) × Int)→Option (bA ((List ah) × Int) (Ex (List ah) (bA ((List ah) × Int) (Ex (List ah) ((List ah) × Int))))):=
 fun zz=>match zz with
 |(out2,t31)=>
 bif (decide (t31<(((at' r_1 t24.toNat).sources).length:Int)))then
 dh ((0:Int)≤t31∧t31<(((at' r_1 t24.toNat).sources).length:Int)) (
 dh ((0:Int)≤(IntKind.wrap .i64 (t31+1))∧(IntKind.wrap .i64 (t31+1))≤(((at' r_1 t24.toNat).sources).length:Int)) (
 Option.bind (aJ (iy p r_1 t24 t31) FUEL (out2,0)) fun o=>match o with
 | .ret v=>some v
 | .brk out5=>
 some (.next (out5,(IntKind.wrap .i64 (t31+1))))))
 else
 some (.done (.brk out2))
def fB (p:au) (r_1:(List aD)):((List ah) × Int)→Option (bA ((List ah) × Int) (Ex (List ah) ((List ah) × Int))):=
 fun zz=>match zz with
 |(out,t24)=>
 bif (decide (t24<(r_1.length:Int)))then
 dh ((0:Int)≤t24∧t24<(r_1.length:Int)) (
 Option.bind (aJ (iA p r_1 t24) FUEL (out,0)) fun o=>match o with
 | .ret v=>some v
 | .brk out3=>
 some (.next (out3,(IntKind.wrap .i64 (t24+1)))))
 else
 some (.done (.brk out))
def bE (p:au) (s_:State):Option ((List ah) × Int):=
 (bP p s_).bind fun r_=>
 bif (!decide (r_=0))then
 some (([]:List ah),r_)
 else
 (eU p s_).bind fun r_1=>
 Option.bind (aJ (fB p r_1) FUEL (([]:List ah),0)) fun o=>match o with
 | .ret v=>some v
 | .brk out1=>
 (fZ out1).bind fun r_2=>
 dh (out1.length=r_2.length) (
 some (r_2,0))
def kH (s_:(List ah)) (v_:ah):Int→Option (bA Int (Ex Unit Int)):=
 fun t8=>
 bif (decide (t8<(s_.length:Int)))then
 dh ((0:Int)≤t8∧t8<(s_.length:Int)) (
 bif ((decide (v_.e0=((at' s_ t8.toNat).e0))) && ((decide (v_.e1=((at' s_ t8.toNat).e1))) && true))then
 some (.done (.ret t8))
 else
 some (.next (IntKind.wrap .i64 (t8+1))))
 else
 some (.done (.brk ()))
def oF (s_:(List ah)) (v_:ah):Option Int:=
 Option.bind (aJ (kH s_ v_) FUEL (0)) fun o=>match o with
 | .ret v=>some v
 | .brk _=>
 some (-1)
def iO (s_:(List ah)) (v_:ah):Option Bool:=
 (oF s_ v_).bind fun r_=>
 some (decide (0≤r_))
def mO (c:ah) (x1:(List ah)):Option Bool:=
 (iO x1 c).bind fun r_=>
 some (!r_)
def gH (s_:(List ah)) (f_:(List ah)):Int→Option (bA Int (Ex Unit Int)):=
 fun t8=>
 bif (decide (t8<(s_.length:Int)))then
 (mO (at' s_ t8.toNat) f_).bind fun r_=>
 dh ((0:Int)≤t8∧t8<(s_.length:Int)) (
 bif r_ then
 some (.done (.ret t8))
 else
 some (.next (IntKind.wrap .i64 (t8+1))))
 else
 some (.done (.brk ()))
def iK (s_:(List ah)) (f_:(List ah)):Option Int:=
 Option.bind (aJ (gH s_ f_) FUEL (0)) fun o=>match o with
 | .ret v=>some v
 | .brk _=>
 some (-1)
def bU (s_:(List ah)) (f_:(List ah)):Option Bool:=
 (iK s_ f_).bind fun r_=>
 some (decide (0≤r_))
def fw (s_:State) (r_:((List Bool) × Int)) (r_2:((List Bool) × Int)):Int→Option (bA Int (Ex Unit (State × Bool))):=
 fun t103=>
 bif (decide (t103<(r_2.1.length:Int)))then
 dh (((0:Int)≤t103∧t103<(r_.1.length:Int))∧(gB [((at' r_.1 t103.toNat),true)]=true→(0:Int)≤t103∧t103<(r_2.1.length:Int))∧(gB [((bif (at' r_.1 t103.toNat)then(!(at' r_2.1 t103.toNat))else false),false)]=true→(0:Int)≤t103∧t103<(r_2.1.length:Int))∧(gB [((at' r_2.1 t103.toNat),true),((bif (at' r_.1 t103.toNat)then(!(at' r_2.1 t103.toNat))else false),false)]=true→(0:Int)≤t103∧t103<(s_.earthed.length:Int))∧(gB [((bif (at' r_2.1 t103.toNat)then(at' s_.earthed t103.toNat)else false),true),((bif (at' r_.1 t103.toNat)then(!(at' r_2.1 t103.toNat))else false),false)]=true→(0:Int)≤t103∧t103<(r_.1.length:Int))) (
 bif (bif (bif (at' r_.1 t103.toNat)then(!(at' r_2.1 t103.toNat))else false)then true else(bif (bif (at' r_2.1 t103.toNat)then(at' s_.earthed t103.toNat)else false)then(!(at' r_.1 t103.toNat))else false))then
 some (.done (.ret (s_,false)))
 else
 some (.next (IntKind.wrap .i64 (t103+1))))
 else
 some (.done (.brk ()))
def qp (s_:State) (r_:((List Bool) × Int)) (r_6:((List Bool) × Int)):Int→Option (bA Int (Ex Unit (State × Bool))):=
 fun t1031=>
 bif (decide (t1031<(r_6.1.length:Int)))then
 dh (((0:Int)≤t1031∧t1031<(r_.1.length:Int))∧(gB [((at' r_.1 t1031.toNat),true)]=true→(0:Int)≤t1031∧t1031<(r_6.1.length:Int))∧(gB [((bif (at' r_.1 t1031.toNat)then(!(at' r_6.1 t1031.toNat))else false),false)]=true→(0:Int)≤t1031∧t1031<(r_6.1.length:Int))∧(gB [((at' r_6.1 t1031.toNat),true),((bif (at' r_.1 t1031.toNat)then(!(at' r_6.1 t1031.toNat))else false),false)]=true→(0:Int)≤t1031∧t1031<(s_.earthed.length:Int))∧(gB [((bif (at' r_6.1 t1031.toNat)then(at' s_.earthed t1031.toNat)else false),true),((bif (at' r_.1 t1031.toNat)then(!(at' r_6.1 t1031.toNat))else false),false)]=true→(0:Int)≤t1031∧t1031<(r_.1.length:Int))) (
 bif (bif (bif (at' r_.1 t1031.toNat)then(!(at' r_6.1 t1031.toNat))else false)then true else(bif (bif (at' r_6.1 t1031.toNat)then(at' s_.earthed t1031.toNat)else false)then(!(at' r_.1 t1031.toNat))else false))then
 some (.done (.ret (s_,false)))
 else
 some (.next (IntKind.wrap .i64 (t1031+1))))
 else
 some (.done (.brk ()))
def jM (p:au) (s_:State) (x:Transfer):Option (State × Bool):=
 (cO p s_).bind fun r_=>
 dh (((0:Int)≤x.watch∧x.watch<(s_.badBus.length:Int))∧(gB [((at' s_.badBus x.watch.toNat),false)]=true→(0:Int)≤x.watch∧x.watch<(r_.1.length:Int))∧(gB [((bif (at' s_.badBus x.watch.toNat)then true else(at' r_.1 x.watch.toNat)),false)]=true→(0:Int)≤x.close∧x.close<(s_.closed.length:Int))∧(gB [((bif (bif (at' s_.badBus x.watch.toNat)then true else(at' r_.1 x.watch.toNat))then true else(at' s_.closed x.close.toNat)),false)]=true→(0:Int)≤x.close∧x.close<(s_.badLink.length:Int))∧(gB [((bif (bif (bif (at' s_.badBus x.watch.toNat)then true else(at' r_.1 x.watch.toNat))then true else(at' s_.closed x.close.toNat))then true else(at' s_.badLink x.close.toNat)),false)]=true→(0:Int)≤x.close∧x.close<(s_.locked.length:Int))) (
 bif (bif (bif (bif (bif (at' s_.badBus x.watch.toNat)then true else(at' r_.1 x.watch.toNat))then true else(at' s_.closed x.close.toNat))then true else(at' s_.badLink x.close.toNat))then true else(at' s_.locked x.close.toNat))then
 some (s_,false)
 else
 (aP s_.closed).bind fun r_1=>
 dh ((0:Int)≤x.close∧x.close<(r_1.length:Int)) (
 bif (decide (0≤x.open_))then
 dh (((0:Int)≤x.open_∧x.open_<(s_.badLink.length:Int))∧(gB [((at' s_.badLink x.open_.toNat),false)]=true→(0:Int)≤x.open_∧x.open_<(s_.locked.length:Int))) (
 bif (bif (at' s_.badLink x.open_.toNat)then true else(at' s_.locked x.open_.toNat))then
 some (s_,false)
 else
 dh ((0:Int)≤x.open_∧x.open_<((r_1.set x.close.toNat true).length:Int)) (
 (cO p (⟨((r_1.set x.close.toNat true).set x.open_.toNat false),s_.locked,s_.badLink,s_.on_,s_.badSource,s_.earthed,s_.badBus⟩:State)).bind fun r_2=>
 Option.bind (aJ (fw s_ r_ r_2) FUEL (0)) fun o=>match o with
 | .ret v=>some v
 | .brk _=>
 (bE p s_).bind fun r_3=>
 (bE p (⟨((r_1.set x.close.toNat true).set x.open_.toNat false),s_.locked,s_.badLink,s_.on_,s_.badSource,s_.earthed,s_.badBus⟩:State)).bind fun r_4=>
 (bif gB [((!(at' r_2.1 x.watch.toNat)),false)]then bU r_4.1 r_3.1 else some default).bind fun r_5=>
 dh ((0:Int)≤x.watch∧x.watch<(r_2.1.length:Int)) (
 bif (bif (!(at' r_2.1 x.watch.toNat))then true else r_5)then
 some (s_,false)
 else
 some ((⟨((r_1.set x.close.toNat true).set x.open_.toNat false),s_.locked,s_.badLink,s_.on_,s_.badSource,s_.earthed,s_.badBus⟩:State),true))))
 else
 (cO p (⟨(r_1.set x.close.toNat true),s_.locked,s_.badLink,s_.on_,s_.badSource,s_.earthed,s_.badBus⟩:State)).bind fun r_6=>
 Option.bind (aJ (qp s_ r_ r_6) FUEL (0)) fun o=>match o with
 | .ret v=>some v
 | .brk _=>
 (bE p s_).bind fun r_7=>
 (bE p (⟨(r_1.set x.close.toNat true),s_.locked,s_.badLink,s_.on_,s_.badSource,s_.earthed,s_.badBus⟩:State)).bind fun r_8=>
 (bif gB [((!(at' r_6.1 x.watch.toNat)),false)]then bU r_8.1 r_7.1 else some default).bind fun r_9=>
 dh ((0:Int)≤x.watch∧x.watch<(r_6.1.length:Int)) (
 bif (bif (!(at' r_6.1 x.watch.toNat))then true else r_9)then
 some (s_,false)
 else
 some ((⟨(r_1.set x.close.toNat true),s_.locked,s_.badLink,s_.on_,s_.badSource,s_.earthed,s_.badBus⟩:State),true))))
def jE (x28:Int) (x29:(List Bool)) (x291:(List Bool)) (x292:(List Bool)) (x293:(List Bool)) (x294:(List Bool)) (x295:(List Bool)) (x296:(List Bool)) (state:State) (o_:(List Int)):Option (State × (List Int)):=
 dh (((o_.length+[x28].length)*8≤140737488355328)∧(o_.length+[x28].length≤4611686018427387904)) (
 some ((⟨x29,x291,x292,x293,x294,x295,x296⟩:State),(o_++[x28])))
def gN (x1:(List Transfer)) (x2:Int) (x21:(List Source)) (x22:(List Link)) (x23:(List aN)) (state:State) (o100:(List Bool)) (o110:(List Int)) (done:(List Bool)):Int→Option (bA Int (Ex Unit (bA ((List Bool) × (List Int) × (List Bool)) (Ex ((List Bool) × (List Int)) (State × State × (List Int)))))):=
 fun t15=>
 bif (decide (t15<(x1.length:Int)))then
 dh ((0:Int)≤t15∧t15<(x1.length:Int)) (
 dh ((0:Int)≤t15∧t15<(done.length:Int)) (
 bif (at' done t15.toNat)then
 some (.next (IntKind.wrap .i64 (t15+1)))
 else
 (jM (⟨x2,x21,x22,x23⟩:au) (⟨o100,state.locked,state.badLink,state.on_,state.badSource,state.earthed,state.badBus⟩:State) (at' x1 t15.toNat)).bind fun r_=>
 bif r_.2 then
 dh ((0:Int)≤t15∧t15<(done.length:Int)) (
 (jE t15 r_.1.closed state.locked state.badLink state.on_ state.badSource state.earthed state.badBus (⟨o100,state.locked,state.badLink,state.on_,state.badSource,state.earthed,state.badBus⟩:State) o110).bind fun r_1=>
 some (.done (.ret (.next (r_.1.closed,r_1.2,(done.set t15.toNat true))))))
 else
 some (.next (IntKind.wrap .i64 (t15+1)))))
 else
 some (.done (.brk ()))
def gQ (x1:(List Transfer)) (x2:Int) (x21:(List Source)) (x22:(List Link)) (x23:(List aN)) (state:State):((List Bool) × (List Int) × (List Bool))→Option (bA ((List Bool) × (List Int) × (List Bool)) (Ex ((List Bool) × (List Int)) (State × State × (List Int)))):=
 fun zz=>match zz with
 |(o100,o110,done)=>
 Option.bind (aJ (gN x1 x2 x21 x22 x23 state o100 o110 done) FUEL (0)) fun o=>match o with
 | .ret v=>some v
 | .brk _=>
 some (.done (.brk (o100,o110)))
def lQ (x1:(List Transfer)) (x2:Int) (x21:(List Source)) (x22:(List Link)) (x23:(List aN)) (state:State) (state1:State) (o_:(List Int)):Option (State × State × (List Int)):=
 Option.bind (α:=Unit) (
 dh (((0:Int)≤(x1.length:Int))∧((1:Int)*(x1.length:Int)≤281474976710656)∧(((x1.length:Int):Int)≤9223372036854775807)) (
 some ())) fun _=>
 Option.bind (aJ (gQ x1 x2 x21 x22 x23 state) FUEL (state.closed,o_,(List.replicate ((x1.length:Int).toNat) (false:Bool)))) fun o=>match o with
 | .ret v=>some v
 | .brk (o1001,o1101)=>
 some ((⟨o1001,state.locked,state.badLink,state.on_,state.badSource,state.earthed,state.badBus⟩:State),(⟨o1001,state.locked,state.badLink,state.on_,state.badSource,state.earthed,state.badBus⟩:State),o1101)
def bS (p:au) (s_:State) (l:(List Transfer)):Option (State × (List Int) × Int):=
 (dY p s_ l).bind fun r_=>
 bif (!decide (r_=0))then
 some ((⟨([]:List Bool),([]:List Bool),([]:List Bool),([]:List Bool),([]:List Bool),([]:List Bool),([]:List Bool)⟩:State),([]:List Int),r_)
 else
 (kI s_).bind fun r_1=>
 (kT p r_1 l).bind fun r_2=>
 (lQ r_2.1 r_2.2.1 r_2.2.2.1 r_2.2.2.2.1 r_2.2.2.2.2.1 r_1 r_1 ([]:List Int)).bind fun r_3=>
 some ((⟨r_3.1.closed,r_1.locked,r_1.badLink,r_1.on_,r_1.badSource,r_1.earthed,r_1.badBus⟩:State),r_3.2.2,0)
def xH (a:(List Int)) (b:(List Int)):Int→Option (bA Int (Ex Unit Bool)):=
 fun i=>
 bif (decide (i<(a.length:Int)))then
 dh (((0:Int)≤i∧i<(a.length:Int))∧((0:Int)≤i∧i<(b.length:Int))) (
 bif (!decide ((at' a i.toNat)=(at' b i.toNat)))then
 some (.done (.ret false))
 else
 some (.next (IntKind.wrap .i64 (i+1))))
 else
 some (.done (.brk ()))
def kS (a:(List Int)) (b:(List Int)):Option Bool:=
 bif (!decide ((a.length:Int)=(b.length:Int)))then
 some false
 else
 Option.bind (aJ (xH a b) FUEL (0)) fun o=>match o with
 | .ret v=>some v
 | .brk _=>
 some true
def tF (s_:State):Option State:=
 dh ((0:Int)≤0∧0<(7:Int)) (
 (aP s_.closed).bind fun r_=>
 dh ((0:Int)≤1∧1<(7:Int)) (
 (aP s_.locked).bind fun r_1=>
 dh ((0:Int)≤2∧2<(7:Int)) (
 (aP s_.badLink).bind fun r_2=>
 dh ((0:Int)≤3∧3<(7:Int)) (
 (aP s_.on_).bind fun r_3=>
 dh ((0:Int)≤4∧4<(7:Int)) (
 (aP s_.badSource).bind fun r_4=>
 dh ((0:Int)≤5∧5<(7:Int)) (
 (aP s_.earthed).bind fun r_5=>
 dh ((0:Int)≤6∧6<(7:Int)) (
 (aP s_.badBus).bind fun r_6=>
 some (⟨r_,r_1,r_2,r_3,r_4,r_5,r_6⟩:State))))))))
def sW (p:au) (s_:State) (x:Part) (is:Bool):Option (State × Int):=
 (bP p s_).bind fun r_=>
 bif (!decide (r_=0))then
 some ((⟨([]:List Bool),([]:List Bool),([]:List Bool),([]:List Bool),([]:List Bool),([]:List Bool),([]:List Bool)⟩:State),r_)
 else
 (tF s_).bind fun r_1=>
 bif (bO x.kind 1)then
 (aK x.index 0 (IntKind.wrap .i64 ((r_1.badBus.length:Int) - 1))).bind fun r_2=>
 bif (!r_2)then
 some ((⟨([]:List Bool),([]:List Bool),([]:List Bool),([]:List Bool),([]:List Bool),([]:List Bool),([]:List Bool)⟩:State),14)
 else
 dh ((0:Int)≤x.index∧x.index<(r_1.badBus.length:Int)) (
 some ((⟨r_1.closed,r_1.locked,r_1.badLink,r_1.on_,r_1.badSource,r_1.earthed,(r_1.badBus.set x.index.toNat is)⟩:State),0))
 else
 bif (bO x.kind 2)then
 (aK x.index 0 (IntKind.wrap .i64 ((r_1.badSource.length:Int) - 1))).bind fun r_3=>
 bif (!r_3)then
 some ((⟨([]:List Bool),([]:List Bool),([]:List Bool),([]:List Bool),([]:List Bool),([]:List Bool),([]:List Bool)⟩:State),14)
 else
 dh ((0:Int)≤x.index∧x.index<(r_1.badSource.length:Int)) (
 some ((⟨r_1.closed,r_1.locked,r_1.badLink,r_1.on_,(r_1.badSource.set x.index.toNat is),r_1.earthed,r_1.badBus⟩:State),0))
 else
 bif (bO x.kind 3)then
 (aK x.index 0 (IntKind.wrap .i64 ((r_1.badLink.length:Int) - 1))).bind fun r_4=>
 bif (!r_4)then
 some ((⟨([]:List Bool),([]:List Bool),([]:List Bool),([]:List Bool),([]:List Bool),([]:List Bool),([]:List Bool)⟩:State),14)
 else
 dh ((0:Int)≤x.index∧x.index<(r_1.badLink.length:Int)) (
 some ((⟨r_1.closed,r_1.locked,(r_1.badLink.set x.index.toNat is),r_1.on_,r_1.badSource,r_1.earthed,r_1.badBus⟩:State),0))
 else
 (aK x.index 0 (-1)).bind fun r_5=>
 bif (!r_5)then
 some ((⟨([]:List Bool),([]:List Bool),([]:List Bool),([]:List Bool),([]:List Bool),([]:List Bool),([]:List Bool)⟩:State),14)
 else
 none
def qa (p:au) (s_:State) (x:Part):Option (State × Int):=
 (sW p s_ x true).bind fun r_=>
 some (r_.1,r_.2)
def yU (p:au) (parts:(List Part)):((List Bool) × (List Bool) × (List Bool) × (List Bool) × (List Bool) × (List Bool) × (List Bool) × Int)→Option (bA ((List Bool) × (List Bool) × (List Bool) × (List Bool) × (List Bool) × (List Bool) × (List Bool) × Int) (Ex ((List Bool) × (List Bool) × (List Bool) × (List Bool) × (List Bool) × (List Bool) × (List Bool)) (State × Int))):=
 fun zz=>match zz with
 |(s0,s1,s2,s3,s4,s5,s6,t26)=>
 bif (decide (t26<(parts.length:Int)))then
 dh ((0:Int)≤t26∧t26<(parts.length:Int)) (
 (qa p (⟨s0,s1,s2,s3,s4,s5,s6⟩:State) (at' parts t26.toNat)).bind fun r_1=>
 bif (!decide (r_1.2=0))then
 some (.done (.ret ((⟨([]:List Bool),([]:List Bool),([]:List Bool),([]:List Bool),([]:List Bool),([]:List Bool),([]:List Bool)⟩:State),r_1.2)))
 else
 some (.next (r_1.1.closed,r_1.1.locked,r_1.1.badLink,r_1.1.on_,r_1.1.badSource,r_1.1.earthed,r_1.1.badBus,(IntKind.wrap .i64 (t26+1)))))
 else
 some (.done (.brk (s0,s1,s2,s3,s4,s5,s6)))
def vR (p:au) (s_:State) (l:(List Transfer)) (parts:(List Part)):Option (State × Int):=
 (dY p s_ l).bind fun r_=>
 bif (!decide (r_=0))then
 some ((⟨([]:List Bool),([]:List Bool),([]:List Bool),([]:List Bool),([]:List Bool),([]:List Bool),([]:List Bool)⟩:State),r_)
 else
 Option.bind (aJ (yU p parts) FUEL (s_.closed,s_.locked,s_.badLink,s_.on_,s_.badSource,s_.earthed,s_.badBus,0)) fun o=>match o with
 | .ret v=>some v
 | .brk (s01,s11,s21,s31,s41,s51,s61)=>
 (bS p (⟨s01,s11,s21,s31,s41,s51,s61⟩:State) l).bind fun r_2=>
 some (r_2.1,r_2.2.2)
def kR (p:au) (s_:State) (rack:Int):Option Int:=
 (bP p s_).bind fun r_=>
 bif (!decide (r_=0))then
 some r_
 else
 bif (bif (decide (rack<0))then true else(decide ((p.racks.length:Int)≤rack)))then
 some 13
 else
 some 0
def yI (p:au) (t24:Int):((List Part) × Int)→Option (bA ((List Part) × Int) (Ex (List Part) (bA ((List Part) × Int) (Ex (List Part) ((List Part) × Int))))):=
 fun zz=>match zz with
 |(out2,t30)=>
 bif (decide (t30<(at' [p.buses,(p.sources.length:Int),(p.links.length:Int)] t24.toNat)))then
 dh (((out2.length+[(⟨(IntKind.wrap .i64 (t24+1)),t30⟩:Part)].length)*16≤140737488355328)∧(out2.length+[(⟨(IntKind.wrap .i64 (t24+1)),t30⟩:Part)].length≤4611686018427387904)) (
 some (.next ((out2++[(⟨(IntKind.wrap .i64 (t24+1)),t30⟩:Part)]),(IntKind.wrap .i64 (t30+1)))))
 else
 some (.done (.brk out2))
def yS (p:au):((List Part) × Int)→Option (bA ((List Part) × Int) (Ex (List Part) ((List Part) × Int))):=
 fun zz=>match zz with
 |(out,t24)=>
 bif (decide (t24<([p.buses,(p.sources.length:Int),(p.links.length:Int)].length:Int)))then
 dh ((0:Int)≤t24∧t24<([p.buses,(p.sources.length:Int),(p.links.length:Int)].length:Int)) (
 Option.bind (aJ (yI p t24) FUEL (out,0)) fun o=>match o with
 | .ret v=>some v
 | .brk out3=>
 some (.next (out3,(IntKind.wrap .i64 (t24+1)))))
 else
 some (.done (.brk out))
def qg (p:au):Option ((List Part) × Int):=
 (jO p).bind fun r_=>
 bif (!decide (r_=0))then
 some (([]:List Part),r_)
 else
 Option.bind (aJ (yS p) FUEL (([]:List Part),0)) fun o=>match o with
 | .ret v=>some v
 | .brk out1=>
 some (out1,0)
def dS (a:Int) (b:Int) (graph:Graph):Option Graph:=
 dh ((((aR a graph.arcs.e0).length+[b].length)*8≤140737488355328)∧((aR a graph.arcs.e0).length+[b].length≤4611686018427387904)) (
 some (⟨graph.parts,(⟨(iw a ((aR a graph.arcs.e0)++[b]) graph.arcs.e0),graph.arcs.e1⟩:aA)⟩:Graph))
def um (s_:(List Part)) (v_:Part):Int→Option (bA Int (Ex Unit Int)):=
 fun t8=>
 bif (decide (t8<(s_.length:Int)))then
 dh ((0:Int)≤t8∧t8<(s_.length:Int)) (
 bif ((decide (v_.kind=((at' s_ t8.toNat).kind))) && ((decide (v_.index=((at' s_ t8.toNat).index))) && true))then
 some (.done (.ret t8))
 else
 some (.next (IntKind.wrap .i64 (t8+1))))
 else
 some (.done (.brk ()))
def pF (s_:(List Part)) (v_:Part):Option Int:=
 Option.bind (aJ (um s_ v_) FUEL (0)) fun o=>match o with
 | .ret v=>some v
 | .brk _=>
 some (-1)
def dR (kz:Int) (i:Int) (graph:Graph):Option Int:=
 (pF graph.parts (⟨kz,i⟩:Part)).bind fun r_=>
 some r_
def rZ (r_:((List Part) × Int)):((List (Int × (List Int))) × Int)→Option (bA ((List (Int × (List Int))) × Int) (Ex (List (Int × (List Int))) Graph)):=
 fun zz=>match zz with
 |(g01,t41)=>
 bif (decide (t41<(r_.1.length:Int)))then
 (dS (IntKind.wrap .i64 ((2:Int)*t41)) (IntKind.wrap .i64 ((IntKind.wrap .i64 ((2:Int)*t41))+1)) (⟨r_.1,(⟨g01,([]:(List (Int × (List Int))))⟩:aA)⟩:Graph)).bind fun r_1=>
 some (.next (r_1.arcs.e0,(IntKind.wrap .i64 (t41+1))))
 else
 some (.done (.brk g01))
def sF (p:au) (s_:State) (r_:((List Part) × Int)):((List (Int × (List Int))) × Int)→Option (bA ((List (Int × (List Int))) × Int) (Ex (List (Int × (List Int))) Graph)):=
 fun zz=>match zz with
 |(g012,t55)=>
 bif (decide (t55<(p.sources.length:Int)))then
 dh ((0:Int)≤t55∧t55<(p.sources.length:Int)) (
 dh (((0:Int)≤t55∧t55<(s_.on_.length:Int))∧(gB [((at' s_.on_ t55.toNat),true)]=true→(0:Int)≤t55∧t55<(s_.badSource.length:Int))∧(gB [((bif (at' s_.on_ t55.toNat)then(!(at' s_.badSource t55.toNat))else false),true)]=true→(0:Int)≤(at' p.sources t55.toNat).bus∧(at' p.sources t55.toNat).bus<(s_.badBus.length:Int))) (
 bif (bif (bif (at' s_.on_ t55.toNat)then(!(at' s_.badSource t55.toNat))else false)then(!(at' s_.badBus (((at' p.sources t55.toNat).bus).toNat)))else false)then
 (dR 2 t55 (⟨r_.1,(⟨g012,([]:(List (Int × (List Int))))⟩:aA)⟩:Graph)).bind fun r_2=>
 (dS (-1) (IntKind.wrap .i64 ((2:Int)*r_2)) (⟨r_.1,(⟨g012,([]:(List (Int × (List Int))))⟩:aA)⟩:Graph)).bind fun r_3=>
 (dR 1 ((at' p.sources t55.toNat).bus) (⟨r_.1,(⟨r_3.arcs.e0,([]:(List (Int × (List Int))))⟩:aA)⟩:Graph)).bind fun r_4=>
 (dS (IntKind.wrap .i64 ((IntKind.wrap .i64 ((2:Int)*r_2))+1)) (IntKind.wrap .i64 ((2:Int)*r_4)) (⟨r_.1,(⟨r_3.arcs.e0,([]:(List (Int × (List Int))))⟩:aA)⟩:Graph)).bind fun r_5=>
 some (.next (r_5.arcs.e0,(IntKind.wrap .i64 (t55+1))))
 else
 some (.next (g012,(IntKind.wrap .i64 (t55+1))))))
 else
 some (.done (.brk g012))
def sQ (p:au) (r_:((List Part) × Int)) (t103:Int) (r_6:Int):((List (Int × (List Int))) × Int)→Option (bA ((List (Int × (List Int))) × Int) (Ex (List (Int × (List Int))) (bA ((List (Int × (List Int))) × Int) (Ex (List (Int × (List Int))) Graph)))):=
 fun zz=>match zz with
 |(g016,t145)=>
 bif (decide (t145<2))then
 dh ((0:Int)≤t145∧t145<((2:Nat):Int)) (
 (dR 1 (at' [(at' p.links t103.toNat).a,(at' p.links t103.toNat).b] t145.toNat) (⟨r_.1,(⟨g016,([]:(List (Int × (List Int))))⟩:aA)⟩:Graph)).bind fun r_7=>
 (dS (IntKind.wrap .i64 ((IntKind.wrap .i64 ((2:Int)*r_7))+1)) (IntKind.wrap .i64 ((2:Int)*r_6)) (⟨r_.1,(⟨g016,([]:(List (Int × (List Int))))⟩:aA)⟩:Graph)).bind fun r_8=>
 (dR 1 (at' [(at' p.links t103.toNat).a,(at' p.links t103.toNat).b] t145.toNat) (⟨r_.1,(⟨r_8.arcs.e0,([]:(List (Int × (List Int))))⟩:aA)⟩:Graph)).bind fun r_9=>
 (dS (IntKind.wrap .i64 ((IntKind.wrap .i64 ((2:Int)*r_6))+1)) (IntKind.wrap .i64 ((2:Int)*r_9)) (⟨r_.1,(⟨r_8.arcs.e0,([]:(List (Int × (List Int))))⟩:aA)⟩:Graph)).bind fun r_10=>
 some (.next (r_10.arcs.e0,(IntKind.wrap .i64 (t145+1)))))
 else
 some (.done (.brk g016))
def sO (p:au) (s_:State) (r_:((List Part) × Int)):((List (Int × (List Int))) × Int)→Option (bA ((List (Int × (List Int))) × Int) (Ex (List (Int × (List Int))) Graph)):=
 fun zz=>match zz with
 |(g014,t103)=>
 bif (decide (t103<(p.links.length:Int)))then
 dh ((0:Int)≤t103∧t103<(p.links.length:Int)) (
 dh (((0:Int)≤t103∧t103<(s_.closed.length:Int))∧(gB [((!(at' s_.closed t103.toNat)),false)]=true→(0:Int)≤t103∧t103<(s_.badLink.length:Int))∧(gB [((bif (!(at' s_.closed t103.toNat))then true else(at' s_.badLink t103.toNat)),false)]=true→(0:Int)≤(at' p.links t103.toNat).a∧(at' p.links t103.toNat).a<(s_.badBus.length:Int))∧(gB [((bif (bif (!(at' s_.closed t103.toNat))then true else(at' s_.badLink t103.toNat))then true else(at' s_.badBus (((at' p.links t103.toNat).a).toNat))),false)]=true→(0:Int)≤(at' p.links t103.toNat).b∧(at' p.links t103.toNat).b<(s_.badBus.length:Int))) (
 bif (bif (bif (bif (!(at' s_.closed t103.toNat))then true else(at' s_.badLink t103.toNat))then true else(at' s_.badBus (((at' p.links t103.toNat).a).toNat)))then true else(at' s_.badBus (((at' p.links t103.toNat).b).toNat)))then
 some (.next (g014,(IntKind.wrap .i64 (t103+1))))
 else
 (dR 3 t103 (⟨r_.1,(⟨g014,([]:(List (Int × (List Int))))⟩:aA)⟩:Graph)).bind fun r_6=>
 Option.bind (aJ (sQ p r_ t103 r_6) FUEL (g014,0)) fun o=>match o with
 | .ret v=>some v
 | .brk g017=>
 some (.next (g017,(IntKind.wrap .i64 (t103+1))))))
 else
 some (.done (.brk g014))
def rX (p:au) (s_:State) (rack:Int) (r_:((List Part) × Int)):((List (Int × (List Int))) × Int)→Option (bA ((List (Int × (List Int))) × Int) (Ex (List (Int × (List Int))) Graph)):=
 fun zz=>match zz with
 |(g018,t174)=>
 bif (decide (t174<2))then
 dh ((0:Int)≤t174∧t174<((2:Nat):Int)) (
 dh (gB [((decide (0≤(at' [((at' p.racks rack.toNat).feeds).e0,((at' p.racks rack.toNat).feeds).e1] t174.toNat))),true)]=true→(0:Int)≤(at' [((at' p.racks rack.toNat).feeds).e0,((at' p.racks rack.toNat).feeds).e1] t174.toNat)∧(at' [((at' p.racks rack.toNat).feeds).e0,((at' p.racks rack.toNat).feeds).e1] t174.toNat)<(s_.badBus.length:Int)) (
 bif (bif (decide (0≤(at' [((at' p.racks rack.toNat).feeds).e0,((at' p.racks rack.toNat).feeds).e1] t174.toNat)))then(!(at' s_.badBus ((at' [((at' p.racks rack.toNat).feeds).e0,((at' p.racks rack.toNat).feeds).e1] t174.toNat).toNat)))else false)then
 (dR 1 (at' [((at' p.racks rack.toNat).feeds).e0,((at' p.racks rack.toNat).feeds).e1] t174.toNat) (⟨r_.1,(⟨g018,([]:(List (Int × (List Int))))⟩:aA)⟩:Graph)).bind fun r_11=>
 (dS (IntKind.wrap .i64 ((IntKind.wrap .i64 ((2:Int)*r_11))+1)) (-2) (⟨r_.1,(⟨g018,([]:(List (Int × (List Int))))⟩:aA)⟩:Graph)).bind fun r_12=>
 some (.next (r_12.arcs.e0,(IntKind.wrap .i64 (t174+1))))
 else
 some (.next (g018,(IntKind.wrap .i64 (t174+1))))))
 else
 some (.done (.brk g018))
def oC (p:au) (s_:State) (rack:Int):Option Graph:=
 (qg p).bind fun r_=>
 Option.bind (aJ (rZ r_) FUEL (([]:(List (Int × (List Int)))),0)) fun o=>match o with
 | .ret v=>some v
 | .brk g011=>
 Option.bind (aJ (sF p s_ r_) FUEL (g011,0)) fun o=>match o with
 | .ret v=>some v
 | .brk g013=>
 Option.bind (aJ (sO p s_ r_) FUEL (g013,0)) fun o=>match o with
 | .ret v=>some v
 | .brk g015=>
 dh ((0:Int)≤rack∧rack<(p.racks.length:Int)) (
 Option.bind (aJ (rX p s_ rack r_) FUEL (g015,0)) fun o=>match o with
 | .ret v=>some v
 | .brk g019=>
 some (⟨r_.1,(⟨g019,([]:(List (Int × (List Int))))⟩:aA)⟩:Graph))
def pu (s_:(List Int)) (s_nn:Bool):Option (List Int):=
 bif (!s_nn)then
 some ([]:List Int)
 else
 dh (((([]:List Int).length+s_.length)*8≤140737488355328)∧(([]:List Int).length+s_.length≤4611686018427387904)) (
 some (([]:List Int)++s_))
def mZ (s:(List Int)):Option (List Int):=pu s true
def tH (s_:(List Int)) (v_:Int):Int→Option (bA Int (Ex Unit Int)):=
 fun t8=>
 bif (decide (t8<(s_.length:Int)))then
 dh ((0:Int)≤t8∧t8<(s_.length:Int)) (
 bif (decide (v_=(at' s_ t8.toNat)))then
 some (.done (.ret t8))
 else
 some (.next (IntKind.wrap .i64 (t8+1))))
 else
 some (.done (.brk ()))
def iP (s_:(List Int)) (v_:Int):Option Int:=
 Option.bind (aJ (tH s_ v_) FUEL (0)) fun o=>match o with
 | .ret v=>some v
 | .brk _=>
 some (-1)
def mQ (s:List Int) (i j:Int):Option (List Int):=OV s i j
def jT (a:Int) (b:Int) (from_:Int) (graph:Graph):Option Graph:=
 bif (decide (from_=0))then
 (iP (aR a graph.arcs.e0) b).bind fun r_=>
 (mQ (aR a graph.arcs.e0) r_ (IntKind.wrap .i64 (r_+1))).bind fun r_1=>
 dh ((((aR a graph.arcs.e1).length+[b].length)*8≤140737488355328)∧((aR a graph.arcs.e1).length+[b].length≤4611686018427387904)) (
 some (⟨graph.parts,(⟨(iw a r_1 graph.arcs.e0),(iw a ((aR a graph.arcs.e1)++[b]) graph.arcs.e1)⟩:aA)⟩:Graph))
 else
 dh (from_=1) (
 (iP (aR a graph.arcs.e1) b).bind fun r_2=>
 (mQ (aR a graph.arcs.e1) r_2 (IntKind.wrap .i64 (r_2+1))).bind fun r_3=>
 dh ((((aR a graph.arcs.e0).length+[b].length)*8≤140737488355328)∧((aR a graph.arcs.e0).length+[b].length≤4611686018427387904)) (
 some (⟨graph.parts,(⟨(iw a ((aR a graph.arcs.e0)++[b]) graph.arcs.e0),(iw a r_3 graph.arcs.e1)⟩:aA)⟩:Graph)))
def iY (s_:(List Int)) (v_:Int):Option Bool:=
 (iP s_ v_).bind fun r_=>
 some (decide (0≤r_))
def om (rec:Int→(List (Int × Bool))→Graph→Option (Bool × (List (Int × Bool)) × Graph)) (at_:Int) (graph:Graph) (r_:(List Int)):((List (Int × Bool)) × (List (Int × (List Int))) × (List (Int × (List Int))) × Int)→Option (bA ((List (Int × Bool)) × (List (Int × (List Int))) × (List (Int × (List Int))) × Int) (Ex ((List (Int × Bool)) × (List (Int × (List Int))) × (List (Int × (List Int)))) (Bool × (List (Int × Bool)) × Graph))):=
 fun zz=>match zz with
 |(o0,o01,o02,t23)=>
 bif (decide (t23<(r_.length:Int)))then
 dh ((0:Int)≤t23∧t23<(r_.length:Int)) (
 bif (!((aQ bO (at' r_ t23.toNat) o0).getD false))then
 (rec (at' r_ t23.toNat) o0 (⟨graph.parts,(⟨o01,o02⟩:aA)⟩:Graph)).bind fun r_1=>
 bif r_1.1 then
 (jT at_ (at' r_ t23.toNat) 0 (⟨graph.parts,r_1.2.2.arcs⟩:Graph)).bind fun r_2=>
 some (.done (.ret (true,r_1.2.1,(⟨graph.parts,r_2.arcs⟩:Graph))))
 else
 some (.next (r_1.2.1,r_1.2.2.arcs.e0,r_1.2.2.arcs.e1,(IntKind.wrap .i64 (t23+1))))
 else
 some (.next (o0,o01,o02,(IntKind.wrap .i64 (t23+1)))))
 else
 some (.done (.brk (o0,o01,o02)))
def fA (rec:Int→(List (Int × Bool))→Graph→Option (Bool × (List (Int × Bool)) × Graph)) (at_:Int) (graph:Graph) (o021:(List (Int × (List Int)))):Int × List Int→((List (Int × Bool)) × (List (Int × (List Int))))→Option (bA ((List (Int × Bool)) × (List (Int × (List Int)))) (Ex Empty (Bool × (List (Int × Bool)) × Graph))):=
 fun x=>fun zz=>match zz with
 |(o04,o012)=>
 bif (bif (!((aQ bO x.1 o04).getD false))then(!decide (x.1=(-1)))else false)then
 (iY x.2 at_).bind fun r_3=>
 bif r_3 then
 (rec x.1 o04 (⟨graph.parts,(⟨o012,o021⟩:aA)⟩:Graph)).bind fun r_4=>
 bif r_4.1 then
 (jT x.1 at_ 1 (⟨graph.parts,r_4.2.2.arcs⟩:Graph)).bind fun r_5=>
 some (.done (.ret (true,r_4.2.1,(⟨graph.parts,r_5.arcs⟩:Graph))))
 else
 dh (r_4.2.2.arcs.e1=o021) (
 some (.next (r_4.2.1,r_4.2.2.arcs.e0)))
 else
 some (.next (o04,o012))
 else
 some (.next (o04,o012))
def iW (at_:Int):Int × List Int→Bool:=
 fun x=> !(decide (x.1= -1)) && Vy (iY x.2 at_)
def iE (rec:Int→(List (Int × Bool))→Graph→Option (Bool × (List (Int × Bool)) × Graph)) (at_:Int) (o_:(List (Int × Bool))) (graph:Graph):Option (Bool × (List (Int × Bool)) × Graph):=
 bif (decide (at_=(-2)))then
 some (true,o_,graph)
 else
 (mZ (aR at_ graph.arcs.e0)).bind fun r_=>
 Option.bind (aJ (om rec at_ graph r_) FUEL ((fe bO at_ true o_),graph.arcs.e0,graph.arcs.e1,0)) fun o=>match o with
 | .ret v=>some v
 | .brk (o03,o011,o021)=>
 Option.bind (VO o021 (iW at_) (fA rec at_ graph o021) (o03,o011)) fun o=>match o with
 | .ret v=>some v
 | .brk (o05,o013)=>
 some (false,o05,(⟨graph.parts,(⟨o013,o021⟩:aA)⟩:Graph))
def eF:Nat→Int→(List (Int × Bool))→Graph→Option (Bool × (List (Int × Bool)) × Graph)
 |0,_,_,_=>none
 |n+1,at_,o_,graph=>iE (eF n) at_ o_ graph
def lH (graph:Graph):Option (Bool × Graph):=
 (eF FUEL (-1) ([]:(List (Int × Bool))) graph).bind fun r_=>
 some (r_.1,(⟨graph.parts,r_.2.2.arcs⟩:Graph))
def sG (graph:Graph):(Int × (List Part))→Option (bA (Int × (List Part)) (Ex (List Part) (bA ((List (List Part)) × Int) (Ex (List (List Part)) (List (List Part)))))):=
 fun zz=>match zz with
 |(at_,way)=>
 bif (!decide (at_=(-2)))then
 dh ((2≠(0:Int))∧((0:Int)≤(IntKind.wrap .i64 (Int.tdiv at_ 2))∧(IntKind.wrap .i64 (Int.tdiv at_ 2))<(graph.parts.length:Int))∧((way.length+[(at' graph.parts ((IntKind.wrap .i64 (Int.tdiv at_ 2)).toNat))].length)*16≤140737488355328)∧(way.length+[(at' graph.parts ((IntKind.wrap .i64 (Int.tdiv at_ 2)).toNat))].length≤4611686018427387904)) (
 dh ((0:Int)≤0∧0<(((aQ bO (IntKind.wrap .i64 (at_+1)) graph.arcs.e1).getD ([]:List Int)).length:Int)) (
 some (.next ((at' ((aQ bO (IntKind.wrap .i64 (at_+1)) graph.arcs.e1).getD ([]:List Int)) 0),(way++[(at' graph.parts ((IntKind.wrap .i64 (Int.tdiv at_ 2)).toNat))])))))
 else
 some (.done (.brk way))
def rW (graph:Graph):((List (List Part)) × Int)→Option (bA ((List (List Part)) × Int) (Ex (List (List Part)) (List (List Part)))):=
 fun zz=>match zz with
 |(out,t14)=>
 bif (decide (t14<(((aQ bO (-1) graph.arcs.e1).getD ([]:List Int)).length:Int)))then
 dh ((0:Int)≤t14∧t14<(((aQ bO (-1) graph.arcs.e1).getD ([]:List Int)).length:Int)) (
 Option.bind (aJ (sG graph) FUEL ((at' ((aQ bO (-1) graph.arcs.e1).getD ([]:List Int)) t14.toNat),([]:List Part))) fun o=>match o with
 | .ret v=>some v
 | .brk way1=>
 dh (((out.length+[way1].length)*24≤140737488355328)∧(out.length+[way1].length≤4611686018427387904)) (
 some (.next ((out++[way1]),(IntKind.wrap .i64 (t14+1))))))
 else
 some (.done (.brk out))
def nW (graph:Graph):Option (List (List Part)):=
 Option.bind (aJ (rW graph) FUEL (([]:List (List Part)),0)) fun o=>match o with
 | .ret v=>some v
 | .brk out1=>
 some out1
def zC (r_1:Graph):((List (Int × (List Int))) × (List (Int × (List Int))) × Int)→Option (bA ((List (Int × (List Int))) × (List (Int × (List Int))) × Int) (Ex ((List (Int × (List Int))) × (List (Int × (List Int)))) ((List (List Part)) × Int))):=
 fun zz=>match zz with
 |(g1,g2,t21)=>
 bif (decide (t21<2))then
 (lH (⟨r_1.parts,(⟨g1,g2⟩:aA)⟩:Graph)).bind fun r_2=>
 bif (!r_2.1)then
 some (.done (.brk (r_2.2.arcs.e0,r_2.2.arcs.e1)))
 else
 some (.next (r_2.2.arcs.e0,r_2.2.arcs.e1,(IntKind.wrap .i64 (t21+1))))
 else
 some (.done (.brk (g1,g2)))
def wZ (p:au) (s_:State) (rack:Int):Option ((List (List Part)) × Int):=
 (kR p s_ rack).bind fun r_=>
 bif (!decide (r_=0))then
 some (([]:List (List Part)),r_)
 else
 (oC p s_ rack).bind fun r_1=>
 Option.bind (aJ (zC r_1) FUEL (r_1.arcs.e0,r_1.arcs.e1,0)) fun o=>match o with
 | .ret v=>some v
 | .brk (g11,g21)=>
 (nW (⟨r_1.parts,(⟨g11,g21⟩:aA)⟩:Graph)).bind fun r_3=>
 some (r_3,0)
def lS (p:au) (s_:State) (rack:Int):Option (Int × Int):=
 (wZ p s_ rack).bind fun r_=>
 some ((r_.1.length:Int),r_.2)
def Aw (p:au) (r_:((List Bool) × Int)):((List bL) × Int)→Option (bA ((List bL) × Int) (Ex (List bL) ((List bL) × Int))):=
 fun zz=>match zz with
 |(out,t26)=>
 bif (decide (t26<(p.racks.length:Int)))then
 dh ((0:Int)≤t26∧t26<(p.racks.length:Int)) (
 dh (gB [((decide (0≤(((at' p.racks t26.toNat).feeds).e0))),true)]=true→(0:Int)≤((at' p.racks t26.toNat).feeds).e0∧((at' p.racks t26.toNat).feeds).e0<(r_.1.length:Int)) (
 dh (gB [((decide (0≤(((at' p.racks t26.toNat).feeds).e1))),true)]=true→(0:Int)≤((at' p.racks t26.toNat).feeds).e1∧((at' p.racks t26.toNat).feeds).e1<(r_.1.length:Int)) (
 dh (((out.length+[(⟨(bif (decide (0≤(((at' p.racks t26.toNat).feeds).e0)))then(at' r_.1 ((((at' p.racks t26.toNat).feeds).e0).toNat))else false),(bif (decide (0≤(((at' p.racks t26.toNat).feeds).e1)))then(at' r_.1 ((((at' p.racks t26.toNat).feeds).e1).toNat))else false)⟩:bL)].length)*2≤140737488355328)∧(out.length+[(⟨(bif (decide (0≤(((at' p.racks t26.toNat).feeds).e0)))then(at' r_.1 ((((at' p.racks t26.toNat).feeds).e0).toNat))else false),(bif (decide (0≤(((at' p.racks t26.toNat).feeds).e1)))then(at' r_.1 ((((at' p.racks t26.toNat).feeds).e1).toNat))else false)⟩:bL)].length≤4611686018427387904)) (
 some (.next ((out++[(⟨(bif (decide (0≤(((at' p.racks t26.toNat).feeds).e0)))then(at' r_.1 ((((at' p.racks t26.toNat).feeds).e0).toNat))else false),(bif (decide (0≤(((at' p.racks t26.toNat).feeds).e1)))then(at' r_.1 ((((at' p.racks t26.toNat).feeds).e1).toNat))else false)⟩:bL)]),(IntKind.wrap .i64 (t26+1))))))))
 else
 some (.done (.brk out))
def zh (p:au) (s_:State):Option ((List bL) × Int):=
 (cO p s_).bind fun r_=>
 bif (!decide (r_.2=0))then
 some (([]:List bL),r_.2)
 else
 Option.bind (aJ (Aw p r_) FUEL (([]:List bL),0)) fun o=>match o with
 | .ret v=>some v
 | .brk out1=>
 some (out1,0)
def ug (p:au) (s_:State) (rack:Int):Option Bool:=
 (zh p s_).bind fun r_=>
 dh (((0:Int)≤rack∧rack<(r_.1.length:Int))∧(gB [((at' r_.1 rack.toNat).e0,false)]=true→(0:Int)≤rack∧rack<(r_.1.length:Int))) (
 some (bif (at' r_.1 rack.toNat).e0 then true else(at' r_.1 rack.toNat).e1))
def uM (s_:State) (x:Part):Option Bool:=
 dh (((0:Int)≤x.kind∧x.kind<([([]:List Bool),s_.badBus,s_.badSource,s_.badLink].length:Int))∧((0:Int)≤x.index∧x.index<((at' [([]:List Bool),s_.badBus,s_.badSource,s_.badLink] x.kind.toNat).length:Int))) (
 some (at' (at' [([]:List Bool),s_.badBus,s_.badSource,s_.badLink] x.kind.toNat) x.index.toNat))
def mM (x:Part) (x1:(List Bool)) (x11:(List Bool)) (x12:(List Bool)) (x13:(List Bool)) (x14:(List Bool)) (x15:(List Bool)) (x16:(List Bool)):Option Bool:=
 (uM (⟨x1,x11,x12,x13,x14,x15,x16⟩:State) x).bind fun r_=>
 some r_
def pW (s_:(List Part)) (f_:(List Bool)) (f_1:(List Bool)) (f_2:(List Bool)) (f_3:(List Bool)) (f_4:(List Bool)) (f_5:(List Bool)) (f_6:(List Bool)):Int→Option (bA Int (Ex Unit Int)):=
 fun t8=>
 bif (decide (t8<(s_.length:Int)))then
 (mM (at' s_ t8.toNat) f_ f_1 f_2 f_3 f_4 f_5 f_6).bind fun r_=>
 dh ((0:Int)≤t8∧t8<(s_.length:Int)) (
 bif r_ then
 some (.done (.ret t8))
 else
 some (.next (IntKind.wrap .i64 (t8+1))))
 else
 some (.done (.brk ()))
def lD (s_:(List Part)) (f_:(List Bool)) (f_1:(List Bool)) (f_2:(List Bool)) (f_3:(List Bool)) (f_4:(List Bool)) (f_5:(List Bool)) (f_6:(List Bool)):Option Int:=
 Option.bind (aJ (pW s_ f_ f_1 f_2 f_3 f_4 f_5 f_6) FUEL (0)) fun o=>match o with
 | .ret v=>some v
 | .brk _=>
 some (-1)
def oZ (del:(List Bool)) (del1:(List Bool)) (del2:(List Bool)) (del3:(List Bool)) (del4:(List Bool)) (del5:(List Bool)) (del6:(List Bool)):((List Part) × Int × Int)→Option (bA ((List Part) × Int × Int) (Ex ((List Part) × Int) (List Part))):=
 fun zz=>match zz with
 |(o_,i,j)=>
 bif (decide (j<(o_.length:Int)))then
 dh ((0:Int)≤j∧j<(o_.length:Int)) (
 (mM (at' o_ j.toNat) del del1 del2 del3 del4 del5 del6).bind fun r_1=>
 bif (!r_1)then
 dh ((0:Int)≤i∧i<(o_.length:Int)) (
 some (.next ((o_.set i.toNat (at' o_ j.toNat)),(IntKind.wrap .i64 (i+1)),(IntKind.wrap .i64 (j+1)))))
 else
 some (.next (o_,i,(IntKind.wrap .i64 (j+1)))))
 else
 some (.done (.brk (o_,i)))
def kY (s_:(List Part)) (del:(List Bool)) (del1:(List Bool)) (del2:(List Bool)) (del3:(List Bool)) (del4:(List Bool)) (del5:(List Bool)) (del6:(List Bool)):Option (List Part):=
 (lD s_ del del1 del2 del3 del4 del5 del6).bind fun r_=>
 bif (decide (r_=(-1)))then
 some s_
 else
 Option.bind (aJ (oZ del del1 del2 del3 del4 del5 del6) FUEL (s_,r_,(IntKind.wrap .i64 (r_+1)))) fun o=>match o with
 | .ret v=>some v
 | .brk (o_1,i1)=>
 dh ((0:Int)≤i1∧i1≤(o_1.length:Int)) (
 dh ((0:Int)≤i1∧i1≤((xG o_1 i1.toNat (⟨0,0⟩:Part)).length:Int)) (
 some ((xG o_1 i1.toNat (⟨0,0⟩:Part)).take i1.toNat)))
def qG (p:au) (s_:State):Option (List Part):=
 (qg p).bind fun r_=>
 (kY r_.1 s_.closed s_.locked s_.badLink s_.on_ s_.badSource s_.earthed s_.badBus).bind fun r_1=>
 some r_1
def jQ (x:Part) (x1:Int) (x11:(List Source)) (x12:(List Link)) (x13:(List aN)) (x2:(List Bool)) (x21:(List Bool)) (x22:(List Bool)) (x23:(List Bool)) (x24:(List Bool)) (x25:(List Bool)) (x26:(List Bool)) (x3:Int):Option Bool:=
 (qa (⟨x1,x11,x12,x13⟩:au) (⟨x2,x21,x22,x23,x24,x25,x26⟩:State) x).bind fun r_=>
 (ug (⟨x1,x11,x12,x13⟩:au) r_.1 x3).bind fun r_1=>
 some r_1
def nM (s_:(List Part)) (f_:Int) (f_1:(List Source)) (f_2:(List Link)) (f_3:(List aN)) (f_4:(List Bool)) (f_5:(List Bool)) (f_6:(List Bool)) (f_7:(List Bool)) (f_8:(List Bool)) (f_9:(List Bool)) (f_10:(List Bool)) (f_11:Int):Int→Option (bA Int (Ex Unit Int)):=
 fun t8=>
 bif (decide (t8<(s_.length:Int)))then
 (jQ (at' s_ t8.toNat) f_ f_1 f_2 f_3 f_4 f_5 f_6 f_7 f_8 f_9 f_10 f_11).bind fun r_=>
 dh ((0:Int)≤t8∧t8<(s_.length:Int)) (
 bif r_ then
 some (.done (.ret t8))
 else
 some (.next (IntKind.wrap .i64 (t8+1))))
 else
 some (.done (.brk ()))
def jI (s_:(List Part)) (f_:Int) (f_1:(List Source)) (f_2:(List Link)) (f_3:(List aN)) (f_4:(List Bool)) (f_5:(List Bool)) (f_6:(List Bool)) (f_7:(List Bool)) (f_8:(List Bool)) (f_9:(List Bool)) (f_10:(List Bool)) (f_11:Int):Option Int:=
 Option.bind (aJ (nM s_ f_ f_1 f_2 f_3 f_4 f_5 f_6 f_7 f_8 f_9 f_10 f_11) FUEL (0)) fun o=>match o with
 | .ret v=>some v
 | .brk _=>
 some (-1)
def wC (a:(List Part)) (b:(List Part)):Int→Option (bA Int (Ex Unit Bool)):=
 fun i=>
 bif (decide (i<(a.length:Int)))then
 dh (((0:Int)≤i∧i<(a.length:Int))∧((0:Int)≤i∧i<(b.length:Int))) (
 bif (!((decide (((at' a i.toNat).kind)=((at' b i.toNat).kind))) && ((decide (((at' a i.toNat).index)=((at' b i.toNat).index))) && true)))then
 some (.done (.ret false))
 else
 some (.next (IntKind.wrap .i64 (i+1))))
 else
 some (.done (.brk ()))
def rT (a:(List Part)) (b:(List Part)):Option Bool:=
 bif (!decide ((a.length:Int)=(b.length:Int)))then
 some false
 else
 Option.bind (aJ (wC a b) FUEL (0)) fun o=>match o with
 | .ret v=>some v
 | .brk _=>
 some true
def iQ (a:Int) (b:Int):Option Link:=
 some (⟨a,b,3,500,10,([]:List qd)⟩:Link)
def mP (sync:Int):Option (au × State):=
 (iQ 0 2).bind fun r_=>
 (iQ 1 3).bind fun r_1=>
 (iQ 2 3).bind fun r_2=>
 dh (((0:Int)≤3)∧((1:Int)*3≤281474976710656)∧((3:Int)≤9223372036854775807)∧((0:Int)≤2)∧((1:Int)*2≤281474976710656)∧((2:Int)≤9223372036854775807)∧((0:Int)≤4)∧((1:Int)*4≤281474976710656)∧((4:Int)≤9223372036854775807)) (
 some ((⟨4,[(⟨0,1,500,sync,20⟩:Source),(⟨1,1,500,sync,20⟩:Source)],[r_,r_1,r_2],[(⟨(⟨2,3⟩:ah),100,2⟩:aN)]⟩:au),(⟨[true,true,false],(List.replicate 3 (false:Bool)),(List.replicate 3 (false:Bool)),[true,true],(List.replicate 2 (false:Bool)),(List.replicate 4 (false:Bool)),(List.replicate 4 (false:Bool))⟩:State)))
def vz (a:(List Bool)) (b:(List Bool)):Int→Option (bA Int (Ex Unit Bool)):=
 fun i=>
 bif (decide (i<(a.length:Int)))then
 dh (((0:Int)≤i∧i<(a.length:Int))∧((0:Int)≤i∧i<(b.length:Int))) (
 bif (!((at' a i.toNat)==(at' b i.toNat)))then
 some (.done (.ret false))
 else
 some (.next (IntKind.wrap .i64 (i+1))))
 else
 some (.done (.brk ()))
def jA (a:(List Bool)) (b:(List Bool)):Option Bool:=
 bif (!decide ((a.length:Int)=(b.length:Int)))then
 some false
 else
 Option.bind (aJ (vz a b) FUEL (0)) fun o=>match o with
 | .ret v=>some v
 | .brk _=>
 some true
def oW (del:Int) (del1:(List Source)) (del2:(List Link)) (del3:(List aN)) (del4:(List Bool)) (del5:(List Bool)) (del6:(List Bool)) (del7:(List Bool)) (del8:(List Bool)) (del9:(List Bool)) (del10:(List Bool)) (del11:Int):((List Part) × Int × Int)→Option (bA ((List Part) × Int × Int) (Ex ((List Part) × Int) (List Part))):=
 fun zz=>match zz with
 |(o_,i,j)=>
 bif (decide (j<(o_.length:Int)))then
 dh ((0:Int)≤j∧j<(o_.length:Int)) (
 (jQ (at' o_ j.toNat) del del1 del2 del3 del4 del5 del6 del7 del8 del9 del10 del11).bind fun r_1=>
 bif (!r_1)then
 dh ((0:Int)≤i∧i<(o_.length:Int)) (
 some (.next ((o_.set i.toNat (at' o_ j.toNat)),(IntKind.wrap .i64 (i+1)),(IntKind.wrap .i64 (j+1)))))
 else
 some (.next (o_,i,(IntKind.wrap .i64 (j+1)))))
 else
 some (.done (.brk (o_,i)))
def kN (s_:(List Part)) (del:Int) (del1:(List Source)) (del2:(List Link)) (del3:(List aN)) (del4:(List Bool)) (del5:(List Bool)) (del6:(List Bool)) (del7:(List Bool)) (del8:(List Bool)) (del9:(List Bool)) (del10:(List Bool)) (del11:Int):Option (List Part):=
 (jI s_ del del1 del2 del3 del4 del5 del6 del7 del8 del9 del10 del11).bind fun r_=>
 bif (decide (r_=(-1)))then
 some s_
 else
 Option.bind (aJ (oW del del1 del2 del3 del4 del5 del6 del7 del8 del9 del10 del11) FUEL (s_,r_,(IntKind.wrap .i64 (r_+1)))) fun o=>match o with
 | .ret v=>some v
 | .brk (o_1,i1)=>
 dh ((0:Int)≤i1∧i1≤(o_1.length:Int)) (
 dh ((0:Int)≤i1∧i1≤((xG o_1 i1.toNat (⟨0,0⟩:Part)).length:Int)) (
 some ((xG o_1 i1.toNat (⟨0,0⟩:Part)).take i1.toNat)))
def jF (p:au) (s_:State) (rack:Int):Option ((List Part) × Int):=
 (kR p s_ rack).bind fun r_=>
 bif (!decide (r_=0))then
 some (([]:List Part),r_)
 else
 (ug p s_ rack).bind fun r_1=>
 bif (!r_1)then
 some (([]:List Part),0)
 else
 (qG p s_).bind fun r_2=>
 (kN r_2 p.buses p.sources p.links p.racks s_.closed s_.locked s_.badLink s_.on_ s_.badSource s_.earthed s_.badBus rack).bind fun r_3=>
 some (r_3,0)
def lT:Option Bool:=
 (mP 1).bind fun r_=>
 (lS r_.1 r_.2 0).bind fun r_1=>
 (jF r_.1 r_.2 0).bind fun r_2=>
 bif (bif (bif (bif (!decide (r_1.2=0))then true else(!decide (r_2.2=0)))then true else(!decide (r_1.1=2)))then true else(!decide ((r_2.1.length:Int)=0)))then
 some false
 else
 dh ((0:Int)≤1∧1<(r_.2.closed.length:Int)) (
 (lS r_.1 (⟨(r_.2.closed.set 1 false),r_.2.locked,r_.2.badLink,r_.2.on_,r_.2.badSource,r_.2.earthed,r_.2.badBus⟩:State) 0).bind fun r_3=>
 (jF r_.1 (⟨(r_.2.closed.set 1 false),r_.2.locked,r_.2.badLink,r_.2.on_,r_.2.badSource,r_.2.earthed,r_.2.badBus⟩:State) 0).bind fun r_4=>
 bif (bif (bif (!decide (r_3.2=0))then true else(!decide (r_4.2=0)))then true else(!decide (r_3.1=1)))then
 some false
 else
 (rT r_4.1 [(⟨1,0⟩:Part),(⟨1,2⟩:Part),(⟨2,0⟩:Part),(⟨3,0⟩:Part)]).bind fun r_5=>
 bif (!r_5)then
 some false
 else
 dh ((0:Int)≤1∧1<((r_.2.closed.set 1 false).length:Int)) (
 (vR r_.1 (⟨((r_.2.closed.set 1 false).set 1 true),r_.2.locked,r_.2.badLink,r_.2.on_,r_.2.badSource,r_.2.earthed,r_.2.badBus⟩:State) [(⟨3,1,2⟩:Transfer)] [(⟨2,1⟩:Part)]).bind fun r_6=>
 bif (!decide (r_6.2=0))then
 some false
 else
 (jA r_6.1.closed [true,false,true]).bind fun r_7=>
 bif (!r_7)then
 some false
 else
 (mP 0).bind fun r_8=>
 dh ((0:Int)≤1∧1<(r_8.2.closed.length:Int)) (
 (bS r_8.1 (⟨(r_8.2.closed.set 1 false),r_8.2.locked,r_8.2.badLink,r_8.2.on_,r_8.2.badSource,r_8.2.earthed,r_8.2.badBus⟩:State) [(⟨3,(-1),2⟩:Transfer)]).bind fun r_9=>
 (bS r_8.1 (⟨[false,false,true],r_8.2.locked,r_8.2.badLink,r_8.2.on_,r_8.2.badSource,r_8.2.earthed,r_8.2.badBus⟩:State) [(⟨3,2,1⟩:Transfer),(⟨2,(-1),0⟩:Transfer)]).bind fun r_10=>
 dh ((0:Int)≤0∧0<(r_8.2.badLink.length:Int)) (
 (bS r_8.1 (⟨[true,false,false],r_8.2.locked,(r_8.2.badLink.set 0 true),r_8.2.on_,r_8.2.badSource,r_8.2.earthed,r_8.2.badBus⟩:State) [(⟨2,(-1),2⟩:Transfer),(⟨3,(-1),1⟩:Transfer)]).bind fun r_11=>
 bif (bif (bif (decide (r_9.2.2=0))then(decide (r_10.2.2=0))else false)then(decide (r_11.2.2=0))else false)then
 (kS r_9.2.1 [0]).bind fun r_12=>
 bif (bif (bif r_12 then(decide ((r_9.1.closed.length:Int)=3))else false)then(at' r_9.1.closed 2)else false)then
 (kS r_10.2.1 [0,1]).bind fun r_13=>
 bif r_13 then
 (jA r_10.1.closed [true,true,false]).bind fun r_14=>
 bif r_14 then
 (kS r_11.2.1 [1,0]).bind fun r_15=>
 bif r_15 then
 (jA r_11.1.closed [true,true,true]).bind fun r_16=>
 dh (gB [((bif r_12 then(decide ((r_9.1.closed.length:Int)=3))else false),true)]=true→(0:Int)≤2∧2<(r_9.1.closed.length:Int)) (
 some r_16)
 else
 dh (gB [((bif r_12 then(decide ((r_9.1.closed.length:Int)=3))else false),true)]=true→(0:Int)≤2∧2<(r_9.1.closed.length:Int)) (
 some false)
 else
 dh (gB [((bif r_12 then(decide ((r_9.1.closed.length:Int)=3))else false),true)]=true→(0:Int)≤2∧2<(r_9.1.closed.length:Int)) (
 some false)
 else
 dh (gB [((bif r_12 then(decide ((r_9.1.closed.length:Int)=3))else false),true)]=true→(0:Int)≤2∧2<(r_9.1.closed.length:Int)) (
 some false)
 else
 dh (gB [((bif r_12 then(decide ((r_9.1.closed.length:Int)=3))else false),true)]=true→(0:Int)≤2∧2<(r_9.1.closed.length:Int)) (
 some false)
 else
 some false))))
def jo (p:au) (s_:State) (l:(List Transfer)):((List Transfer) × Int)→Option (bA ((List Transfer) × Int) (Ex (List Transfer) (List Transfer))):=
 fun zz=>match zz with
 |(out,i)=>
 bif (bif (decide (i<(l.length:Int)))then(decide ((out.length:Int)<16))else false)then
 dh ((0:Int)≤i∧i<(l.length:Int)) (
 (bS p s_ [(at' l i.toNat)]).bind fun r_=>
 bif (decide (r_.2.2=0))then
 dh (((out.length+[(at' l i.toNat)].length)*24≤140737488355328)∧(out.length+[(at' l i.toNat)].length≤4611686018427387904)) (
 some (.next ((out++[(at' l i.toNat)]),(IntKind.wrap .i64 (i+1)))))
 else
 some (.next (out,(IntKind.wrap .i64 (i+1)))))
 else
 some (.done (.brk out))
def lY (p:au) (s_:State) (l:(List Transfer)):Option (List Transfer):=
 Option.bind (aJ (jo p s_ l) FUEL (([]:List Transfer),0)) fun o=>match o with
 | .ret v=>some v
 | .brk out1=>
 some out1
def dB (p:au) (s_:State) (r_3:(State × (List Int) × Int)) (r_4:((List Bool) × Int)) (r_5:((List Bool) × Int)):Int→Option (bA Int (Ex Unit Bool)):=
 fun b=>
 bif (decide (b<p.buses))then
 dh (((0:Int)≤b∧b<(r_4.1.length:Int))∧(gB [((at' r_4.1 b.toNat),true)]=true→(0:Int)≤b∧b<(r_5.1.length:Int))∧(gB [((bif (at' r_4.1 b.toNat)then(!(at' r_5.1 b.toNat))else false),false)]=true→(0:Int)≤b∧b<(r_3.1.earthed.length:Int))∧(gB [((bif (at' r_4.1 b.toNat)then(!(at' r_5.1 b.toNat))else false),false)]=true→(0:Int)≤b∧b<(s_.earthed.length:Int))∧(gB [((bif (bif (at' r_4.1 b.toNat)then(!(at' r_5.1 b.toNat))else false)then true else(!((at' r_3.1.earthed b.toNat)==(at' s_.earthed b.toNat)))),false)]=true→(0:Int)≤b∧b<(r_5.1.length:Int))∧(gB [((at' r_5.1 b.toNat),true),((bif (bif (at' r_4.1 b.toNat)then(!(at' r_5.1 b.toNat))else false)then true else(!((at' r_3.1.earthed b.toNat)==(at' s_.earthed b.toNat)))),false)]=true→(0:Int)≤b∧b<(r_3.1.earthed.length:Int))∧(gB [((bif (at' r_5.1 b.toNat)then(at' r_3.1.earthed b.toNat)else false),true),((bif (bif (at' r_4.1 b.toNat)then(!(at' r_5.1 b.toNat))else false)then true else(!((at' r_3.1.earthed b.toNat)==(at' s_.earthed b.toNat)))),false)]=true→(0:Int)≤b∧b<(r_4.1.length:Int))) (
 bif (bif (bif (bif (at' r_4.1 b.toNat)then(!(at' r_5.1 b.toNat))else false)then true else(!((at' r_3.1.earthed b.toNat)==(at' s_.earthed b.toNat))))then true else(bif (bif (at' r_5.1 b.toNat)then(at' r_3.1.earthed b.toNat)else false)then(!(at' r_4.1 b.toNat))else false))then
 some (.done (.ret false))
 else
 some (.next (IntKind.wrap .i64 (b+1))))
 else
 some (.done (.brk ()))
def dD (r_6:((List ah) × Int)) (r_7:((List ah) × Int)) (i:Int):(Bool × Int)→Option (bA (Bool × Int) (Ex Bool (bA Int (Ex Unit Bool)))):=
 fun zz=>match zz with
 |(there,kz)=>
 bif (decide (kz<(r_6.1.length:Int)))then
 dh ((gB [(there,false)]=true→(0:Int)≤kz∧kz<(r_6.1.length:Int))∧(gB [(there,false)]=true→(0:Int)≤i∧i<(r_7.1.length:Int))) (
 some (.next ((bif there then true else((decide (((at' r_6.1 kz.toNat).e0)=((at' r_7.1 i.toNat).e0))) && ((decide (((at' r_6.1 kz.toNat).e1)=((at' r_7.1 i.toNat).e1))) && true))),(IntKind.wrap .i64 (kz+1)))))
 else
 some (.done (.brk there))
def dF (r_6:((List ah) × Int)) (r_7:((List ah) × Int)):Int→Option (bA Int (Ex Unit Bool)):=
 fun i=>
 bif (decide (i<(r_7.1.length:Int)))then
 Option.bind (aJ (dD r_6 r_7 i) FUEL (false,0)) fun o=>match o with
 | .ret v=>some v
 | .brk there1=>
 bif (!there1)then
 some (.done (.ret false))
 else
 some (.next (IntKind.wrap .i64 (i+1)))
 else
 some (.done (.brk ()))
def dA (r_2:(List Transfer)) (r_3:(State × (List Int) × Int)) (r_5:((List Bool) × Int)):((List Bool) × Int)→Option (bA ((List Bool) × Int) (Ex (List Bool) Bool)):=
 fun zz=>match zz with
 |(done,i1)=>
 bif (decide (i1<(r_3.2.1.length:Int)))then
 dh ((0:Int)≤i1∧i1<(r_3.2.1.length:Int)) (
 dh ((gB [((bif (decide ((at' r_3.2.1 i1.toNat)<0))then true else(decide ((r_2.length:Int)≤(at' r_3.2.1 i1.toNat)))),false)]=true→(0:Int)≤(at' r_3.2.1 i1.toNat)∧(at' r_3.2.1 i1.toNat)<(done.length:Int))∧(gB [((bif (bif (decide ((at' r_3.2.1 i1.toNat)<0))then true else(decide ((r_2.length:Int)≤(at' r_3.2.1 i1.toNat))))then true else(at' done ((at' r_3.2.1 i1.toNat).toNat))),false)]=true→(0:Int)≤(at' r_3.2.1 i1.toNat)∧(at' r_3.2.1 i1.toNat)<(r_2.length:Int))∧(gB [((bif (bif (decide ((at' r_3.2.1 i1.toNat)<0))then true else(decide ((r_2.length:Int)≤(at' r_3.2.1 i1.toNat))))then true else(at' done ((at' r_3.2.1 i1.toNat).toNat))),false)]=true→(0:Int)≤(at' r_2 ((at' r_3.2.1 i1.toNat).toNat)).watch∧(at' r_2 ((at' r_3.2.1 i1.toNat).toNat)).watch<(r_5.1.length:Int))) (
 bif (bif (bif (bif (decide ((at' r_3.2.1 i1.toNat)<0))then true else(decide ((r_2.length:Int)≤(at' r_3.2.1 i1.toNat))))then true else(at' done ((at' r_3.2.1 i1.toNat).toNat)))then true else(!(at' r_5.1 (((at' r_2 ((at' r_3.2.1 i1.toNat).toNat)).watch).toNat))))then
 some (.done (.ret false))
 else
 dh ((0:Int)≤(at' r_3.2.1 i1.toNat)∧(at' r_3.2.1 i1.toNat)<(done.length:Int)) (
 some (.next ((done.set ((at' r_3.2.1 i1.toNat).toNat) true),(IntKind.wrap .i64 (i1+1)))))))
 else
 some (.done (.brk done))
def dG (p:au) (r_2:(List Transfer)) (r_3:(State × (List Int) × Int)) (done1:(List Bool)):Int→Option (bA Int (Ex Unit Bool)):=
 fun kz1=>
 bif (decide (kz1<(r_2.length:Int)))then
 dh ((0:Int)≤kz1∧kz1<(done1.length:Int)) (
 bif (at' done1 kz1.toNat)then
 some (.next (IntKind.wrap .i64 (kz1+1)))
 else
 (bS p r_3.1 (BL r_2 kz1.toNat (((IntKind.wrap .i64 (kz1+1)).toNat) - kz1.toNat))).bind fun r_8=>
 dh ((0:Int)≤kz1∧kz1≤(IntKind.wrap .i64 (kz1+1))∧(IntKind.wrap .i64 (kz1+1))≤(r_2.length:Int)) (
 bif (bif (!decide (r_8.2.2=0))then true else(!decide ((r_8.2.1.length:Int)=0)))then
 some (.done (.ret false))
 else
 some (.next (IntKind.wrap .i64 (kz1+1)))))
 else
 some (.done (.brk ()))
def fI (p:au) (s_:State) (l:(List Transfer)):Option Bool:=
 (bif gB [((bif (bif (bif (decide (60<(p.sources.length:Int)))then true else(decide (60<(p.links.length:Int))))then true else(decide (60<(p.racks.length:Int))))then true else(decide (60<(l.length:Int)))),false)]then bP p s_ else some default).bind fun r_=>
 bif (bif (bif (bif (bif (decide (60<(p.sources.length:Int)))then true else(decide (60<(p.links.length:Int))))then true else(decide (60<(p.racks.length:Int))))then true else(decide (60<(l.length:Int))))then true else(!decide (r_=0)))then
 (lT).bind fun r_1=>
 some r_1
 else
 (lY p s_ l).bind fun r_2=>
 (bS p s_ r_2).bind fun r_3=>
 (cO p s_).bind fun r_4=>
 (cO p r_3.1).bind fun r_5=>
 (bE p s_).bind fun r_6=>
 (bE p r_3.1).bind fun r_7=>
 bif (bif (bif (bif (bif (bif (bif (bif (bif (!decide (r_3.2.2=0))then true else(!decide (r_4.2=0)))then true else(!decide (r_5.2=0)))then true else(!decide (r_6.2=0)))then true else(!decide (r_7.2=0)))then true else(!decide ((r_4.1.length:Int)=p.buses)))then true else(!decide ((r_5.1.length:Int)=p.buses)))then true else(!decide ((r_3.1.earthed.length:Int)=p.buses)))then true else(!decide ((s_.earthed.length:Int)=p.buses)))then
 some false
 else
 Option.bind (aJ (dB p s_ r_3 r_4 r_5) FUEL (0)) fun o=>match o with
 | .ret v=>some v
 | .brk _=>
 Option.bind (aJ (dF r_6 r_7) FUEL (0)) fun o=>match o with
 | .ret v=>some v
 | .brk _=>
 dh (((0:Int)≤(r_2.length:Int))∧((1:Int)*(r_2.length:Int)≤281474976710656)∧(((r_2.length:Int):Int)≤9223372036854775807)) (
 Option.bind (aJ (dA r_2 r_3 r_5) FUEL ((List.replicate ((r_2.length:Int).toNat) (false:Bool)),0)) fun o=>match o with
 | .ret v=>some v
 | .brk done1=>
 Option.bind (aJ (dG p r_2 r_3 done1) FUEL (0)) fun o=>match o with
 | .ret v=>some v
 | .brk _=>
 (lT).bind fun r_9=>
 some r_9)
end Sg
