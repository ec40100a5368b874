import Derived.Test.YtpndenfhglaikaaLc
set_option linter.all false
namespace Sg
open Go
structure State where
 closed:(List Bool)
 locked:(List Bool)
 badLink:(List Bool)
 on_:(List Bool)
 badSource:(List Bool)
 earthed:(List Bool)
 badBus:(List Bool)
instance:Inhabited State:=⟨⟨default,default,default,default,default,default,default⟩⟩
def State.cell (x:State):Nat→DV
 |0=>(aK none 1 aj x.closed)
 |1=>(aK none 1 aj x.locked)
 |2=>(aK none 1 aj x.badLink)
 |3=>(aK none 1 aj x.on_)
 |4=>(aK none 1 aj x.badSource)
 |5=>(aK none 1 aj x.earthed)
 |6=>(aK none 1 aj x.badBus)
 |_=> .nilp
structure Source where
 bus:Int
 kind:Int
 power:Int
 sync:Int
 iL:Int
instance:Inhabited Source:=⟨⟨default,default,default,default,default⟩⟩
def Source.cell (x:Source):Nat→DV
 |0=>(.int .i64 x.bus)
 |1=>(.int .i64 x.kind)
 |2=>(.int .i64 x.power)
 |3=>(.int .i64 x.sync)
 |4=>(.int .i64 x.iL)
 |_=> .nilp
structure iQ where
 amps:Int
 millis:Int
instance:Inhabited iQ:=⟨⟨default,default⟩⟩
def iQ.cell (x:iQ):Nat→DV
 |0=>(.int .i64 x.amps)
 |1=>(.int .i64 x.millis)
 |_=> .nilp
structure Link where
 a:Int
 b:Int
 kind:Int
 most:Int
 iL:Int
 trip:(List iQ)
instance:Inhabited Link:=⟨⟨default,default,default,default,default,default⟩⟩
def Link.cell (x:Link):Nat→DV
 |0=>(.int .i64 x.a)
 |1=>(.int .i64 x.b)
 |2=>(.int .i64 x.kind)
 |3=>(.int .i64 x.most)
 |4=>(.int .i64 x.iL)
 |5=>(aK none 2 iQ.cell x.trip)
 |_=> .nilp
structure af where
 e0:Int
 e1:Int
instance:Inhabited af:=⟨⟨default,default⟩⟩
def af.cell (x:af):Nat→DV
 |0=>(.int .i64 x.e0)
 |1=>(.int .i64 x.e1)
 |_=> .nilp
structure ay where
 feeds:af
 power:Int
 paths:Int
instance:Inhabited ay:=⟨⟨default,default,default⟩⟩
def ay.cell (x:ay):Nat→DV
 |0=>(.int .i64 x.feeds.e0)
 |1=>(.int .i64 x.feeds.e1)
 |2=>(.int .i64 x.power)
 |3=>(.int .i64 x.paths)
 |_=> .nilp
structure ah where
 buses:Int
 sources:(List Source)
 links:(List Link)
 racks:(List ay)
instance:Inhabited ah:=⟨⟨default,default,default,default⟩⟩
def ah.cell (x:ah):Nat→DV
 |0=>(.int .i64 x.buses)
 |1=>(aK none 5 Source.cell x.sources)
 |2=>(aK none 6 Link.cell x.links)
 |3=>(aK none 4 ay.cell x.racks)
 |_=> .nilp
structure dD where
 l:(List Bool)
 n:Int
instance:Inhabited dD:=⟨⟨default,default⟩⟩
def dD.cell (x:dD):Nat→DV
 |0=>(aK none 1 aj x.l)
 |1=>(.int .i64 x.n)
 |_=> .nilp
structure Way where
 there:Bool
 iL:Int
 links:(List Int)
instance:Inhabited Way:=⟨⟨default,default,default⟩⟩
def Way.cell (x:Way):Nat→DV
 |0=>(.bool x.there)
 |1=>(.int .i64 x.iL)
 |2=>(aK none 1 (au .i64) x.links)
 |_=> .nilp
structure Short where
 source:Int
 iL:Int
 amps:Int
 links:(List Int)
instance:Inhabited Short:=⟨⟨default,default,default,default⟩⟩
def Short.cell (x:Short):Nat→DV
 |0=>(.int .i64 x.source)
 |1=>(.int .i64 x.iL)
 |2=>(.int .i64 x.amps)
 |3=>(aK none 1 (au .i64) x.links)
 |_=> .nilp
structure aY where
 to_:Int
 left:Int
instance:Inhabited aY:=⟨⟨default,default⟩⟩
def aY.cell (x:aY):Nat→DV
 |0=>(.int .i64 x.to_)
 |1=>(.int .i64 x.left)
 |_=> .nilp
structure Network where
 arcs:(List aY)
 from_:(List (List Int))
instance:Inhabited Network:=⟨⟨default,default⟩⟩
def Network.cell (x:Network):Nat→DV
 |0=>(aK none 2 aY.cell x.arcs)
 |1=>(aK none 1 (IU 1 (au .i64)) x.from_)
 |_=> .nilp
structure aH where
 l:(List af)
instance:Inhabited aH:=⟨⟨default⟩⟩
def aH.cell (x:aH):Nat→DV
 |0=>(aK none 2 af.cell x.l)
 |_=> .nilp
structure ai where
 sources:(List Int)
 links:(List Int)
 racks:(List af)
instance:Inhabited ai:=⟨⟨default,default,default⟩⟩
def ai.cell (x:ai):Nat→DV
 |0=>(aK none 1 (au .i64) x.sources)
 |1=>(aK none 1 (au .i64) x.links)
 |2=>(aK none 2 af.cell x.racks)
 |_=> .nilp
structure Part where
 kind:Int
 index:Int
instance:Inhabited Part:=⟨⟨default,default⟩⟩
def Part.cell (x:Part):Nat→DV
 |0=>(.int .i64 x.kind)
 |1=>(.int .i64 x.index)
 |_=> .nilp
structure Ay where
 head:(List (Int × Int))
instance:Inhabited Ay:=⟨⟨default⟩⟩
def Ay.cell (x:Ay):Nat→DV
 |0=> .nilp
 |_=> .nilp
structure Iu where
 buses:(List Int)
 sources:(List Int)
instance:Inhabited Iu:=⟨⟨default,default⟩⟩
def Iu.cell (x:Iu):Nat→DV
 |0=>(aK none 1 (au .i64) x.buses)
 |1=>(aK none 1 (au .i64) x.sources)
 |_=> .nilp
def Iu.ev (x:Iu):Nat→EV
 |0=> .row 3 1 x.buses.length (aC (au .i64) x.buses)
 |1=> .row 3 1 x.sources.length (aC (au .i64) x.sources)
 |_=> .d .nilp
instance:DecidableEq af:=fun a b=>if h:a.e0=b.e0∧a.e1=b.e1 then .isTrue (match a,b,h with|⟨_,_⟩,⟨_,_⟩,⟨h0,h1⟩=>by cases h0;cases h1;rfl)else .isFalse fun q=>h (by cases q;exact⟨rfl,rfl⟩)
def rQ (x:List Int):Nat→EV
 |0=> .row 3 1 x.length (aC (au .i64) x)
 |_=> .d .nilp
def sJ (a:(List Bool)) (b:(List Bool)):Int→Option (aM Int (Ex Unit Bool)):=
 fun i=>
 bif (decide (i<(a.length:Int)))then
 dU (((0:Int)≤i∧i<(a.length:Int))∧((0:Int)≤i∧i<(b.length:Int))) (
 bif (!((at' a i.toNat)==(at' b i.toNat)))then
 some (.done (.ret false))
 else
 some (.next (IntKind.wrap .i64 (i+1))))
 else
 some (.done (.brk ()))
def mW (a:(List Bool)) (b:(List Bool)):Option Bool:=
 bif (!decide ((a.length:Int)=(b.length:Int)))then
 some false
 else
 Option.bind (aS (sJ a b) FUEL (0)) fun o=>match o with
 | .ret v=>some v
 | .brk _=>
 some true
def aW (n:Int) (first:Int) (last:Int):Option Bool:=
 some (bif (decide (first≤n))then(decide (n≤last))else false)
def oK (p:ah):Option (Int × (List Source) × (List Link) × (List ay)):=
 some (p.buses,p.sources,p.links,p.racks)
def sQ (p:ah):Option (Int × (List Source) × (List Link) × (List ay)):=
 some (p.buses,p.sources,p.links,p.racks)
def tN (p:ah):Option (Int × (List Source) × (List Link) × (List ay)):=
 some (p.buses,p.sources,p.links,p.racks)
def jM (x:Source) (x1:Int) (x11:(List Source)) (x12:(List Link)) (x13:(List ay)):Option Bool:=
 (aW x.bus 0 (IntKind.wrap .i64 (x1 - 1))).bind fun r_=>
 (bif gB [(r_,true)]then aW x.kind 1 3 else some default).bind fun r_1=>
 (bif gB [((bif r_ then r_1 else false),true)]then aW x.power 1 100000 else some default).bind fun r_2=>
 (bif gB [((bif (bif r_ then r_1 else false)then r_2 else false),true)]then aW x.sync 0 8 else some default).bind fun r_3=>
 (bif gB [((bif (bif (bif r_ then r_1 else false)then r_2 else false)then r_3 else false),true)]then aW x.iL 10 100000 else some default).bind fun r_4=>
 some (bif (bif (bif (bif r_ then r_1 else false)then r_2 else false)then r_3 else false)then r_4 else false)
def pM (x:Source) (x1:Int) (x11:(List Source)) (x12:(List Link)) (x13:(List ay)):Option Bool:=
 (jM x x1 x11 x12 x13).bind fun r_=>
 some (!r_)
def jf (s_:(List Source)) (f_:Int) (f_1:(List Source)) (f_2:(List Link)) (f_3:(List ay)):Int→Option (aM Int (Ex Unit Int)):=
 fun t8=>
 bif (decide (t8<(s_.length:Int)))then
 (pM (at' s_ t8.toNat) f_ f_1 f_2 f_3).bind fun r_=>
 dU ((0:Int)≤t8∧t8<(s_.length:Int)) (
 bif r_ then
 some (.done (.ret t8))
 else
 some (.next (IntKind.wrap .i64 (t8+1))))
 else
 some (.done (.brk ()))
def ko (s_:(List Source)) (f_:Int) (f_1:(List Source)) (f_2:(List Link)) (f_3:(List ay)):Option Int:=
 Option.bind (aS (jf s_ f_ f_1 f_2 f_3) FUEL (0)) fun o=>match o with
 | .ret v=>some v
 | .brk _=>
 some (-1)
def gD (s_:(List Source)) (f_:Int) (f_1:(List Source)) (f_2:(List Link)) (f_3:(List ay)):Option Bool:=
 (ko s_ f_ f_1 f_2 f_3).bind fun r_=>
 some (decide (0≤r_))
def o9 (l:(List Source)) (most:Int) (right:Int) (right1:(List Source)) (right2:(List Link)) (right3:(List ay)):Option Bool:=
 (bif gB [((decide ((l.length:Int)≤most)),true)]then gD l right right1 right2 right3 else some default).bind fun r_=>
 some (bif (decide ((l.length:Int)≤most))then(!r_)else false)
def jy (x:Link):Int→Option (aM Int (Ex Unit Bool)):=
 fun t50=>
 bif (decide (t50<(x.trip.length:Int)))then
 dU ((0:Int)≤t50∧t50<(x.trip.length:Int)) (
 (aW ((at' x.trip t50.toNat).amps) 1 1000000).bind fun r_5=>
 (bif gB [((!r_5),false)]then aW ((at' x.trip t50.toNat).millis) 1 100000 else some default).bind fun r_6=>
 dU ((gB [((decide (0<t50)),true),((bif (!r_5)then true else(!r_6)),false)]=true→(0:Int)≤(IntKind.wrap .i64 (t50 - 1))∧(IntKind.wrap .i64 (t50 - 1))<(x.trip.length:Int))∧(gB [((decide (((at' x.trip t50.toNat).amps)≤((at' x.trip ((IntKind.wrap .i64 (t50 - 1)).toNat)).amps))),false),((decide (0<t50)),true),((bif (!r_5)then true else(!r_6)),false)]=true→(0:Int)≤(IntKind.wrap .i64 (t50 - 1))∧(IntKind.wrap .i64 (t50 - 1))<(x.trip.length:Int))) (
 bif (bif (bif (!r_5)then true else(!r_6))then true else(bif (decide (0<t50))then(bif (decide (((at' x.trip t50.toNat).amps)≤((at' x.trip ((IntKind.wrap .i64 (t50 - 1)).toNat)).amps)))then true else(decide (((at' x.trip ((IntKind.wrap .i64 (t50 - 1)).toNat)).millis)≤((at' x.trip t50.toNat).millis))))else false))then
 some (.done (.ret false))
 else
 some (.next (IntKind.wrap .i64 (t50+1)))))
 else
 some (.done (.brk ()))
def mF (x:Link) (x1:Int) (x11:(List Source)) (x12:(List Link)) (x13:(List ay)):Option Bool:=
 (aW x.a 0 (IntKind.wrap .i64 (x1 - 1))).bind fun r_=>
 (bif gB [((!r_),false)]then aW x.b 0 (IntKind.wrap .i64 (x1 - 1))else some default).bind fun r_1=>
 (bif gB [((bif (bif (!r_)then true else(!r_1))then true else(decide (x.a=x.b))),false)]then aW x.kind 1 3 else some default).bind fun r_2=>
 (bif gB [((bif (bif (bif (!r_)then true else(!r_1))then true else(decide (x.a=x.b)))then true else(!r_2)),false)]then aW x.most 1 100000 else some default).bind fun r_3=>
 (bif gB [((bif (bif (bif (bif (!r_)then true else(!r_1))then true else(decide (x.a=x.b)))then true else(!r_2))then true else(!r_3)),false)]then aW x.iL 10 100000 else some default).bind fun r_4=>
 bif (bif (bif (bif (bif (bif (!r_)then true else(!r_1))then true else(decide (x.a=x.b)))then true else(!r_2))then true else(!r_3))then true else(!r_4))then
 some false
 else
 Option.bind (aS (jy x) FUEL (0)) fun o=>match o with
 | .ret v=>some v
 | .brk _=>
 some (bif (decide ((x.trip.length:Int)≤6))then(bif (decide ((x.trip.length:Int)=0))then true else(decide (x.kind=3)))else false)
def lG (x:Link) (x1:Int) (x11:(List Source)) (x12:(List Link)) (x13:(List ay)):Option Bool:=
 (mF x x1 x11 x12 x13).bind fun r_=>
 some (!r_)
def gT (s_:(List Link)) (f_:Int) (f_1:(List Source)) (f_2:(List Link)) (f_3:(List ay)):Int→Option (aM Int (Ex Unit Int)):=
 fun t8=>
 bif (decide (t8<(s_.length:Int)))then
 (lG (at' s_ t8.toNat) f_ f_1 f_2 f_3).bind fun r_=>
 dU ((0:Int)≤t8∧t8<(s_.length:Int)) (
 bif r_ then
 some (.done (.ret t8))
 else
 some (.next (IntKind.wrap .i64 (t8+1))))
 else
 some (.done (.brk ()))
def jd (s_:(List Link)) (f_:Int) (f_1:(List Source)) (f_2:(List Link)) (f_3:(List ay)):Option Int:=
 Option.bind (aS (gT s_ f_ f_1 f_2 f_3) FUEL (0)) fun o=>match o with
 | .ret v=>some v
 | .brk _=>
 some (-1)
def eX (s_:(List Link)) (f_:Int) (f_1:(List Source)) (f_2:(List Link)) (f_3:(List ay)):Option Bool:=
 (jd s_ f_ f_1 f_2 f_3).bind fun r_=>
 some (decide (0≤r_))
def mq (l:(List Link)) (most:Int) (right:Int) (right1:(List Source)) (right2:(List Link)) (right3:(List ay)):Option Bool:=
 (bif gB [((decide ((l.length:Int)≤most)),true)]then eX l right right1 right2 right3 else some default).bind fun r_=>
 some (bif (decide ((l.length:Int)≤most))then(!r_)else false)
def nL (x:ay):Option Int:=
 bif (decide (x.feeds.e1=(-1)))then
 some 1
 else
 some 2
def lW (x:ay) (x1:Int) (x11:(List Source)) (x12:(List Link)) (x13:(List ay)):Option Bool:=
 (aW x.feeds.e0 0 (IntKind.wrap .i64 (x1 - 1))).bind fun r_=>
 (bif gB [(r_,true)]then aW x.feeds.e1 (-1) (IntKind.wrap .i64 (x1 - 1))else some default).bind fun r_1=>
 (bif gB [((bif (bif r_ then r_1 else false)then(!decide (x.feeds.e0=x.feeds.e1))else false),true)]then aW x.power 1 100000 else some default).bind fun r_2=>
 (bif gB [((bif (bif (bif r_ then r_1 else false)then(!decide (x.feeds.e0=x.feeds.e1))else false)then r_2 else false),true)]then nL x else some default).bind fun r_3=>
 (bif gB [((bif (bif (bif r_ then r_1 else false)then(!decide (x.feeds.e0=x.feeds.e1))else false)then r_2 else false),true)]then aW x.paths 0 r_3 else some default).bind fun r_4=>
 some (bif (bif (bif (bif r_ then r_1 else false)then(!decide (x.feeds.e0=x.feeds.e1))else false)then r_2 else false)then r_4 else false)
def kT (x:ay) (x1:Int) (x11:(List Source)) (x12:(List Link)) (x13:(List ay)):Option Bool:=
 (lW x x1 x11 x12 x13).bind fun r_=>
 some (!r_)
def gN (s_:(List ay)) (f_:Int) (f_1:(List Source)) (f_2:(List Link)) (f_3:(List ay)):Int→Option (aM Int (Ex Unit Int)):=
 fun t8=>
 bif (decide (t8<(s_.length:Int)))then
 (kT (⟨((at' s_ t8.toNat).feeds),(at' s_ t8.toNat).power,(at' s_ t8.toNat).paths⟩:ay) f_ f_1 f_2 f_3).bind fun r_=>
 dU ((0:Int)≤t8∧t8<(s_.length:Int)) (
 bif r_ then
 some (.done (.ret t8))
 else
 some (.next (IntKind.wrap .i64 (t8+1))))
 else
 some (.done (.brk ()))
def je (s_:(List ay)) (f_:Int) (f_1:(List Source)) (f_2:(List Link)) (f_3:(List ay)):Option Int:=
 Option.bind (aS (gN s_ f_ f_1 f_2 f_3) FUEL (0)) fun o=>match o with
 | .ret v=>some v
 | .brk _=>
 some (-1)
def eY (s_:(List ay)) (f_:Int) (f_1:(List Source)) (f_2:(List Link)) (f_3:(List ay)):Option Bool:=
 (je s_ f_ f_1 f_2 f_3).bind fun r_=>
 some (decide (0≤r_))
def mh (l:(List ay)) (most:Int) (right:Int) (right1:(List Source)) (right2:(List Link)) (right3:(List ay)):Option Bool:=
 (bif gB [((decide ((l.length:Int)≤most)),true)]then eY l right right1 right2 right3 else some default).bind fun r_=>
 some (bif (decide ((l.length:Int)≤most))then(!r_)else false)
def kM (p:ah):Option Int:=
 (aW p.buses 1 24).bind fun r_=>
 bif (!r_)then
 some 10
 else
 (oK p).bind fun r_1=>
 (o9 p.sources 8 r_1.1 r_1.2.1 r_1.2.2.1 r_1.2.2.2).bind fun r_2=>
 bif (!r_2)then
 some 11
 else
 (sQ p).bind fun r_3=>
 (mq p.links 40 r_3.1 r_3.2.1 r_3.2.2.1 r_3.2.2.2).bind fun r_4=>
 bif (!r_4)then
 some 12
 else
 (tN p).bind fun r_5=>
 (mh p.racks 24 r_5.1 r_5.2.1 r_5.2.2.1 r_5.2.2.2).bind fun r_6=>
 bif (!r_6)then
 some 13
 else
 some 0
def gu (p:ah) (s_:State):Int→Option (aM Int (Ex Unit Int)):=
 fun t55=>
 bif (decide (t55<([(⟨s_.closed,(p.links.length:Int)⟩:dD),(⟨s_.locked,(p.links.length:Int)⟩:dD),(⟨s_.badLink,(p.links.length:Int)⟩:dD),(⟨s_.on_,(p.sources.length:Int)⟩:dD),(⟨s_.badSource,(p.sources.length:Int)⟩:dD),(⟨s_.earthed,p.buses⟩:dD),(⟨s_.badBus,p.buses⟩:dD)].length:Int)))then
 dU ((0:Int)≤t55∧t55<([(⟨s_.closed,(p.links.length:Int)⟩:dD),(⟨s_.locked,(p.links.length:Int)⟩:dD),(⟨s_.badLink,(p.links.length:Int)⟩:dD),(⟨s_.on_,(p.sources.length:Int)⟩:dD),(⟨s_.badSource,(p.sources.length:Int)⟩:dD),(⟨s_.earthed,p.buses⟩:dD),(⟨s_.badBus,p.buses⟩:dD)].length:Int)) (
 bif (!decide ((((at' [(⟨s_.closed,(p.links.length:Int)⟩:dD),(⟨s_.locked,(p.links.length:Int)⟩:dD),(⟨s_.badLink,(p.links.length:Int)⟩:dD),(⟨s_.on_,(p.sources.length:Int)⟩:dD),(⟨s_.badSource,(p.sources.length:Int)⟩:dD),(⟨s_.earthed,p.buses⟩:dD),(⟨s_.badBus,p.buses⟩:dD)] t55.toNat).l).length:Int)=((at' [(⟨s_.closed,(p.links.length:Int)⟩:dD),(⟨s_.locked,(p.links.length:Int)⟩:dD),(⟨s_.badLink,(p.links.length:Int)⟩:dD),(⟨s_.on_,(p.sources.length:Int)⟩:dD),(⟨s_.badSource,(p.sources.length:Int)⟩:dD),(⟨s_.earthed,p.buses⟩:dD),(⟨s_.badBus,p.buses⟩:dD)] t55.toNat).n)))then
 some (.done (.ret 9))
 else
 some (.next (IntKind.wrap .i64 (t55+1))))
 else
 some (.done (.brk ()))
def gI (p:ah) (s_:State):Int→Option (aM Int (Ex Unit Int)):=
 fun t69=>
 bif (decide (t69<(p.links.length:Int)))then
 dU ((0:Int)≤t69∧t69<(p.links.length:Int)) (
 dU ((gB [((decide (((at' p.links t69.toNat).kind)=1)),true)]=true→(0:Int)≤t69∧t69<(s_.closed.length:Int))∧(gB [((!(at' s_.closed t69.toNat)),false),((decide (((at' p.links t69.toNat).kind)=1)),true)]=true→(0:Int)≤t69∧t69<(s_.locked.length:Int))) (
 bif (bif (decide (((at' p.links t69.toNat).kind)=1))then(bif (!(at' s_.closed t69.toNat))then true else(at' s_.locked t69.toNat))else false)then
 some (.done (.ret 9))
 else
 some (.next (IntKind.wrap .i64 (t69+1)))))
 else
 some (.done (.brk ()))
def dm (p:ah) (s_:State):Option Int:=
 (kM p).bind fun r_=>
 bif (!decide (r_=0))then
 some r_
 else
 Option.bind (aS (gu p s_) FUEL (0)) fun o=>match o with
 | .ret v=>some v
 | .brk _=>
 Option.bind (aS (gI p s_) FUEL (0)) fun o=>match o with
 | .ret v=>some v
 | .brk _=>
 some 0
def gU (p:ah) (s_:State) (k:Int):Option Bool:=
 dU (((0:Int)≤k∧k<(s_.on_.length:Int))∧(gB [((at' s_.on_ k.toNat),true)]=true→(0:Int)≤k∧k<(s_.badSource.length:Int))∧(gB [((bif (at' s_.on_ k.toNat)then(!(at' s_.badSource k.toNat))else false),true)]=true→(0:Int)≤k∧k<(p.sources.length:Int))∧(gB [((bif (at' s_.on_ k.toNat)then(!(at' s_.badSource k.toNat))else false),true)]=true→(0:Int)≤(at' p.sources k.toNat).bus∧(at' p.sources k.toNat).bus<(s_.badBus.length:Int))) (
 some (bif (bif (at' s_.on_ k.toNat)then(!(at' s_.badSource k.toNat))else false)then(!(at' s_.badBus (((at' p.sources k.toNat).bus).toNat)))else false))
def dz (p:ah) (s_:State) (i:Int):Option Bool:=
 dU ((0:Int)≤i∧i<(p.links.length:Int)) (
 dU (((0:Int)≤i∧i<(s_.closed.length:Int))∧(gB [((at' s_.closed i.toNat),true)]=true→(0:Int)≤i∧i<(s_.badLink.length:Int))∧(gB [((bif (at' s_.closed i.toNat)then(!(at' s_.badLink i.toNat))else false),true)]=true→(0:Int)≤(at' p.links i.toNat).a∧(at' p.links i.toNat).a<(s_.badBus.length:Int))∧(gB [((bif (bif (at' s_.closed i.toNat)then(!(at' s_.badLink i.toNat))else false)then(!(at' s_.badBus (((at' p.links i.toNat).a).toNat)))else false),true)]=true→(0:Int)≤(at' p.links i.toNat).b∧(at' p.links i.toNat).b<(s_.badBus.length:Int))) (
 some (bif (bif (bif (at' s_.closed i.toNat)then(!(at' s_.badLink i.toNat))else false)then(!(at' s_.badBus (((at' p.links i.toNat).a).toNat)))else false)then(!(at' s_.badBus (((at' p.links i.toNat).b).toNat)))else false)))
def oP (s_:(List Int)) (s_nn:Bool):Option (List Int):=
 bif (!s_nn)then
 some ([]:List Int)
 else
 dU (((([]:List Int).length+s_.length)*8≤140737488355328)∧(([]:List Int).length+s_.length≤4611686018427387904)) (
 some (([]:List Int)++s_))
def sM (s:(List Int)):Option (List Int):=oP s true
def vT (x:Int):Option Bool:=
 some (!decide (x=x))
def wW (x:Int) (y:Int):Option Int:=
 (vT x).bind fun r_=>
 (vT y).bind fun r_1=>
 bif r_ then
 bif r_1 then
 some 0
 else
 some (-1)
 else
 bif r_1 then
 some 1
 else
 bif (decide (x<y))then
 some (-1)
 else
 bif (decide (y<x))then
 some 1
 else
 some 0
def r9 (s1:(List Int)) (s2:(List Int)):Int→Option (aM Int (Ex Unit Int)):=
 fun t11=>
 bif (decide (t11<(s1.length:Int)))then
 dU ((0:Int)≤t11∧t11<(s1.length:Int)) (
 bif (decide ((s2.length:Int)≤t11))then
 some (.done (.ret 1))
 else
 dU ((0:Int)≤t11∧t11<(s2.length:Int)) (
 (wW (at' s1 t11.toNat) (at' s2 t11.toNat)).bind fun r_=>
 bif (!decide (r_=0))then
 some (.done (.ret r_))
 else
 some (.next (IntKind.wrap .i64 (t11+1)))))
 else
 some (.done (.brk ()))
def qK (s1:(List Int)) (s2:(List Int)):Option Int:=
 Option.bind (aS (r9 s1 s2) FUEL (0)) fun o=>match o with
 | .ret v=>some v
 | .brk _=>
 bif (decide ((s1.length:Int)<(s2.length:Int)))then
 some (-1)
 else
 some 0
def FV (vals:(List Int)):Int→Option (aM Int (Ex Unit Int)):=
 fun t8=>
 bif (decide (t8<(vals.length:Int)))then
 dU ((0:Int)≤t8∧t8<(vals.length:Int)) (
 bif (!decide ((at' vals t8.toNat)=0))then
 some (.done (.ret (at' vals t8.toNat)))
 else
 some (.next (IntKind.wrap .i64 (t8+1))))
 else
 some (.done (.brk ()))
def Ie (vals:(List Int)):Option Int:=
 Option.bind (aS (FV vals) FUEL (0)) fun o=>match o with
 | .ret v=>some v
 | .brk _=>
 some 0
def xq (a:Way) (b:Way):Option Bool:=
 bif (!b.there)then
 some true
 else
 (qK a.links b.links).bind fun r_=>
 (Ie [(IntKind.wrap .i64 (a.iL - b.iL)),(IntKind.wrap .i64 ((a.links.length:Int) - (b.links.length:Int))),r_]).bind fun r_1=>
 some (decide (r_1<0))
def Ap (p:ah) (t28:Int):((List Way) × Bool × Int)→Option (aM ((List Way) × Bool × Int) (Ex ((List Way) × Bool) (aM ((List Way) × Bool × Int) (Ex ((List Way) × Bool) (aM ((List Way) × Bool) (Ex (List Way) (List Way))))))):=
 fun zz=>match zz with
 |(out4,changed3,t49)=>
 bif (decide (t49<2))then
 dU ((0:Int)≤t49∧t49<((2:Nat):Int)) (
 dU ((0:Int)≤(at' [(⟨(at' p.links t28.toNat).a,(at' p.links t28.toNat).b⟩:af),(⟨(at' p.links t28.toNat).b,(at' p.links t28.toNat).a⟩:af)] t49.toNat).e0∧(at' [(⟨(at' p.links t28.toNat).a,(at' p.links t28.toNat).b⟩:af),(⟨(at' p.links t28.toNat).b,(at' p.links t28.toNat).a⟩:af)] t49.toNat).e0<(out4.length:Int)) (
 bif (!((at' out4 (((at' [(⟨(at' p.links t28.toNat).a,(at' p.links t28.toNat).b⟩:af),(⟨(at' p.links t28.toNat).b,(at' p.links t28.toNat).a⟩:af)] t49.toNat).e0).toNat)).there))then
 some (.next (out4,changed3,(IntKind.wrap .i64 (t49+1))))
 else
 (sM ((at' out4 (((at' [(⟨(at' p.links t28.toNat).a,(at' p.links t28.toNat).b⟩:af),(⟨(at' p.links t28.toNat).b,(at' p.links t28.toNat).a⟩:af)] t49.toNat).e0).toNat)).links)).bind fun r_1=>
 dU (((r_1.length+[t28].length)*8≤140737488355328)∧(r_1.length+[t28].length≤4611686018427387904)) (
 (xq (⟨true,(IntKind.wrap .i64 (((at' out4 (((at' [(⟨(at' p.links t28.toNat).a,(at' p.links t28.toNat).b⟩:af),(⟨(at' p.links t28.toNat).b,(at' p.links t28.toNat).a⟩:af)] t49.toNat).e0).toNat)).iL)+((at' p.links t28.toNat).iL))),(r_1++[t28])⟩:Way) (at' out4 (((at' [(⟨(at' p.links t28.toNat).a,(at' p.links t28.toNat).b⟩:af),(⟨(at' p.links t28.toNat).b,(at' p.links t28.toNat).a⟩:af)] t49.toNat).e1).toNat))).bind fun r_2=>
 dU ((0:Int)≤(at' [(⟨(at' p.links t28.toNat).a,(at' p.links t28.toNat).b⟩:af),(⟨(at' p.links t28.toNat).b,(at' p.links t28.toNat).a⟩:af)] t49.toNat).e1∧(at' [(⟨(at' p.links t28.toNat).a,(at' p.links t28.toNat).b⟩:af),(⟨(at' p.links t28.toNat).b,(at' p.links t28.toNat).a⟩:af)] t49.toNat).e1<(out4.length:Int)) (
 bif r_2 then
 dU ((0:Int)≤(at' [(⟨(at' p.links t28.toNat).a,(at' p.links t28.toNat).b⟩:af),(⟨(at' p.links t28.toNat).b,(at' p.links t28.toNat).a⟩:af)] t49.toNat).e1∧(at' [(⟨(at' p.links t28.toNat).a,(at' p.links t28.toNat).b⟩:af),(⟨(at' p.links t28.toNat).b,(at' p.links t28.toNat).a⟩:af)] t49.toNat).e1<(out4.length:Int)) (
 some (.next ((out4.set (((at' [(⟨(at' p.links t28.toNat).a,(at' p.links t28.toNat).b⟩:af),(⟨(at' p.links t28.toNat).b,(at' p.links t28.toNat).a⟩:af)] t49.toNat).e1).toNat) (⟨true,(IntKind.wrap .i64 (((at' out4 (((at' [(⟨(at' p.links t28.toNat).a,(at' p.links t28.toNat).b⟩:af),(⟨(at' p.links t28.toNat).b,(at' p.links t28.toNat).a⟩:af)] t49.toNat).e0).toNat)).iL)+((at' p.links t28.toNat).iL))),(r_1++[t28])⟩:Way)),true,(IntKind.wrap .i64 (t49+1)))))
 else
 some (.next (out4,changed3,(IntKind.wrap .i64 (t49+1))))))))
 else
 some (.done (.brk (out4,changed3)))
def AX (p:ah) (s_:State):((List Way) × Bool × Int)→Option (aM ((List Way) × Bool × Int) (Ex ((List Way) × Bool) (aM ((List Way) × Bool) (Ex (List Way) (List Way))))):=
 fun zz=>match zz with
 |(out2,changed1,t28)=>
 bif (decide (t28<(p.links.length:Int)))then
 dU ((0:Int)≤t28∧t28<(p.links.length:Int)) (
 (dz p s_ t28).bind fun r_=>
 bif (!r_)then
 some (.next (out2,changed1,(IntKind.wrap .i64 (t28+1))))
 else
 Option.bind (aS (Ap p t28) FUEL (out2,changed1,0)) fun o=>match o with
 | .ret v=>some v
 | .brk (out5,changed4)=>
 some (.next (out5,changed4,(IntKind.wrap .i64 (t28+1)))))
 else
 some (.done (.brk (out2,changed1)))
def Ar (p:ah) (s_:State):((List Way) × Bool)→Option (aM ((List Way) × Bool) (Ex (List Way) (List Way))):=
 fun zz=>match zz with
 |(out,changed)=>
 bif changed then
 Option.bind (aS (AX p s_) FUEL (out,false,0)) fun o=>match o with
 | .ret v=>some v
 | .brk (out3,changed2)=>
 some (.next (out3,changed2))
 else
 some (.done (.brk out))
def Au (p:ah) (s_:State) (bus:Int):Option (List Way):=
 dU (((0:Int)≤p.buses)∧((40:Int)*p.buses≤281474976710656)∧((p.buses:Int)≤9223372036854775807)) (
 dU ((0:Int)≤bus∧bus<((List.replicate p.buses.toNat ((⟨false,0,([]:List Int)⟩:Way):Way)).length:Int)) (
 Option.bind (aS (Ar p s_) FUEL (((List.replicate p.buses.toNat ((⟨false,0,([]:List Int)⟩:Way):Way)).set bus.toNat (⟨true,(at' (List.replicate p.buses.toNat ((⟨false,0,([]:List Int)⟩:Way):Way)) bus.toNat).iL,(at' (List.replicate p.buses.toNat ((⟨false,0,([]:List Int)⟩:Way):Way)) bus.toNat).links⟩:Way)),true)) fun o=>match o with
 | .ret v=>some v
 | .brk out1=>
 some out1))
def yB (p:ah) (s_:State) (bus:Int):((List Short) × Int)→Option (aM ((List Short) × Int) (Ex (List Short) ((List Short) × Int))):=
 fun zz=>match zz with
 |(out,t31)=>
 bif (decide (t31<(p.sources.length:Int)))then
 dU ((0:Int)≤t31∧t31<(p.sources.length:Int)) (
 (bif gB [((at' s_.badBus bus.toNat),false)]then gU p s_ t31 else some default).bind fun r_1=>
 dU ((0:Int)≤bus∧bus<(s_.badBus.length:Int)) (
 bif (bif (at' s_.badBus bus.toNat)then true else(!r_1))then
 some (.next (out,(IntKind.wrap .i64 (t31+1))))
 else
 (Au p s_ ((at' p.sources t31.toNat).bus)).bind fun r_2=>
 dU ((0:Int)≤bus∧bus<(r_2.length:Int)) (
 bif ((at' r_2 bus.toNat).there)then
 dU (((IntKind.wrap .i64 (((at' p.sources t31.toNat).iL)+((at' r_2 bus.toNat).iL)))≠(0:Int))∧((out.length+[(⟨t31,(IntKind.wrap .i64 (((at' p.sources t31.toNat).iL)+((at' r_2 bus.toNat).iL))),(IntKind.wrap .i64 (Int.tdiv (IntKind.wrap .i64 ((IntKind.wrap .i64 ((400000:Int)+(IntKind.wrap .i64 (((at' p.sources t31.toNat).iL)+((at' r_2 bus.toNat).iL))))) - 1)) (IntKind.wrap .i64 (((at' p.sources t31.toNat).iL)+((at' r_2 bus.toNat).iL))))),(at' r_2 bus.toNat).links⟩:Short)].length)*48≤140737488355328)∧(out.length+[(⟨t31,(IntKind.wrap .i64 (((at' p.sources t31.toNat).iL)+((at' r_2 bus.toNat).iL))),(IntKind.wrap .i64 (Int.tdiv (IntKind.wrap .i64 ((IntKind.wrap .i64 ((400000:Int)+(IntKind.wrap .i64 (((at' p.sources t31.toNat).iL)+((at' r_2 bus.toNat).iL))))) - 1)) (IntKind.wrap .i64 (((at' p.sources t31.toNat).iL)+((at' r_2 bus.toNat).iL))))),(at' r_2 bus.toNat).links⟩:Short)].length≤4611686018427387904)) (
 some (.next ((out++[(⟨t31,(IntKind.wrap .i64 (((at' p.sources t31.toNat).iL)+((at' r_2 bus.toNat).iL))),(IntKind.wrap .i64 (Int.tdiv (IntKind.wrap .i64 ((IntKind.wrap .i64 ((400000:Int)+(IntKind.wrap .i64 (((at' p.sources t31.toNat).iL)+((at' r_2 bus.toNat).iL))))) - 1)) (IntKind.wrap .i64 (((at' p.sources t31.toNat).iL)+((at' r_2 bus.toNat).iL))))),(at' r_2 bus.toNat).links⟩:Short)]),(IntKind.wrap .i64 (t31+1)))))
 else
 some (.next (out,(IntKind.wrap .i64 (t31+1)))))))
 else
 some (.done (.brk out))
def kN (p:ah) (s_:State) (bus:Int):Option ((List Short) × Int):=
 (dm p s_).bind fun r_=>
 bif (!decide (r_=0))then
 some (([]:List Short),r_)
 else
 bif (bif (decide (bus<0))then true else(decide (p.buses≤bus)))then
 some (([]:List Short),1)
 else
 Option.bind (aS (yB p s_ bus) FUEL (([]:List Short),0)) fun o=>match o with
 | .ret v=>some v
 | .brk out1=>
 some (out1,0)
def wh (s_:(List Int)) (v_:Int):Int→Option (aM Int (Ex Unit Int)):=
 fun t8=>
 bif (decide (t8<(s_.length:Int)))then
 dU ((0:Int)≤t8∧t8<(s_.length:Int)) (
 bif (decide (v_=(at' s_ t8.toNat)))then
 some (.done (.ret t8))
 else
 some (.next (IntKind.wrap .i64 (t8+1))))
 else
 some (.done (.brk ()))
def uD (s_:(List Int)) (v_:Int):Option Int:=
 Option.bind (aS (wh s_ v_) FUEL (0)) fun o=>match o with
 | .ret v=>some v
 | .brk _=>
 some (-1)
def pI (s_:(List Int)) (v_:Int):Option Bool:=
 (uD s_ v_).bind fun r_=>
 some (decide (0≤r_))
def qB (i:Int) (o_:(List Int)):Option Bool:=
 some (bif (decide (i<0))then true else(decide ((o_.length:Int)≤i)))
def nH (s_:(List Int)) (o_:(List Int)):Int→Option (aM Int (Ex Unit Int)):=
 fun t8=>
 bif (decide (t8<(s_.length:Int)))then
 (qB (at' s_ t8.toNat) o_).bind fun r_=>
 dU ((0:Int)≤t8∧t8<(s_.length:Int)) (
 bif r_ then
 some (.done (.ret t8))
 else
 some (.next (IntKind.wrap .i64 (t8+1))))
 else
 some (.done (.brk ()))
def kP (s_:(List Int)) (o_:(List Int)):Option Int:=
 Option.bind (aS (nH s_ o_) FUEL (0)) fun o=>match o with
 | .ret v=>some v
 | .brk _=>
 some (-1)
def jR (s_:(List Int)) (o_:(List Int)):Option Bool:=
 (kP s_ o_).bind fun r_=>
 some (decide (0≤r_))
def vW (l:(List Short)) (out0:(List Int)) (t25:Int):((List Int) × Int)→Option (aM ((List Int) × Int) (Ex (List Int) (aM ((List Int) × Int) (Ex (List Int) ((List Int) × Bool × Int))))):=
 fun zz=>match zz with
 |(out02,t45)=>
 bif (decide (t45<(out0.length:Int)))then
 (pI ((at' l t25.toNat).links) t45).bind fun r_2=>
 bif r_2 then
 dU ((0:Int)≤t45∧t45<(out02.length:Int)) (
 some (.next ((out02.set t45.toNat (IntKind.wrap .i64 ((at' out02 t45.toNat)+((at' l t25.toNat).amps)))),(IntKind.wrap .i64 (t45+1)))))
 else
 some (.next (out02,(IntKind.wrap .i64 (t45+1))))
 else
 some (.done (.brk out02))
def vY (l:(List Short)):((List Int) × Int)→Option (aM ((List Int) × Int) (Ex (List Int) ((List Int) × Bool × Int))):=
 fun zz=>match zz with
 |(out0,t25)=>
 bif (decide (t25<(l.length:Int)))then
 dU ((0:Int)≤t25∧t25<(l.length:Int)) (
 (bif gB [((bif (decide (((at' l t25.toNat).amps)<0))then true else(decide (1000000<((at' l t25.toNat).amps)))),false)]then jR ((at' l t25.toNat).links) out0 else some default).bind fun r_1=>
 bif (bif (bif (decide (((at' l t25.toNat).amps)<0))then true else(decide (1000000<((at' l t25.toNat).amps))))then true else r_1)then
 some (.done (.ret (([]:List Int),false,1)))
 else
 Option.bind (aS (vW l out0 t25) FUEL (out0,0)) fun o=>match o with
 | .ret v=>some v
 | .brk out03=>
 some (.next (out03,(IntKind.wrap .i64 (t25+1)))))
 else
 some (.done (.brk out0))
def jP (p:ah) (l:(List Short)):Option ((List Int) × Bool × Int):=
 (kM p).bind fun r_=>
 bif (!decide (r_=0))then
 some (([]:List Int),false,r_)
 else
 bif (decide (8<(l.length:Int)))then
 some (([]:List Int),false,1)
 else
 dU (((0:Int)≤(p.links.length:Int))∧((8:Int)*(p.links.length:Int)≤281474976710656)∧(((p.links.length:Int):Int)≤9223372036854775807)) (
 Option.bind (aS (vY l) FUEL ((List.replicate ((p.links.length:Int).toNat) (0:Int)),0)) fun o=>match o with
 | .ret v=>some v
 | .brk out01=>
 some (out01,true,0))
def fO (s_:State) (b:Int):Option Bool:=
 dU (gB [((decide (0≤b)),true)]=true→(0:Int)≤b∧b<(s_.badBus.length:Int)) (
 some (bif (decide (0≤b))then(!(at' s_.badBus b.toNat))else false))
def dw (a:Int) (b:Int) (there:Int) (back:Int) (network:Network):Option (Int × Network):=
 dU (((network.arcs.length+[(⟨b,there⟩:aY),(⟨a,back⟩:aY)].length)*16≤140737488355328)∧(network.arcs.length+[(⟨b,there⟩:aY),(⟨a,back⟩:aY)].length≤4611686018427387904)) (
 dU (((0:Int)≤a∧a<(network.from_.length:Int))∧(((at' network.from_ a.toNat).length+[(network.arcs.length:Int)].length)*8≤140737488355328)∧((at' network.from_ a.toNat).length+[(network.arcs.length:Int)].length≤4611686018427387904)) (
 dU (((0:Int)≤b∧b<((network.from_.set a.toNat ((at' network.from_ a.toNat)++[(network.arcs.length:Int)])).length:Int))∧(((at' (network.from_.set a.toNat ((at' network.from_ a.toNat)++[(network.arcs.length:Int)])) b.toNat).length+[(IntKind.wrap .i64 ((network.arcs.length:Int)+1))].length)*8≤140737488355328)∧((at' (network.from_.set a.toNat ((at' network.from_ a.toNat)++[(network.arcs.length:Int)])) b.toNat).length+[(IntKind.wrap .i64 ((network.arcs.length:Int)+1))].length≤4611686018427387904)) (
 some ((network.arcs.length:Int),(⟨(network.arcs++[(⟨b,there⟩:aY),(⟨a,back⟩:aY)]),((network.from_.set a.toNat ((at' network.from_ a.toNat)++[(network.arcs.length:Int)])).set b.toNat ((at' (network.from_.set a.toNat ((at' network.from_ a.toNat)++[(network.arcs.length:Int)])) b.toNat)++[(IntKind.wrap .i64 ((network.arcs.length:Int)+1))]))⟩:Network)))))
def dR (network:Network):Option Unit:=
 some ()
def bD (x19:Int) (x20:Int) (o_:(List Int)) (network:Network):(Int × Int)→Option (aM (Int × Int) (Ex Int (Nat × (List Int) × Network))):=
 fun zz=>match zz with
 |(least,at_)=>
 dU ((0:Int)≤at_∧at_<((o_.set x19.toNat x20).length:Int)) (
 bif (decide (0≤(at' (o_.set x19.toNat x20) at_.toNat)))then
 Option.bind (α:=Int) (
 dU (((0:Int)≤at_∧at_<((o_.set x19.toNat x20).length:Int))∧((0:Int)≤(at' (o_.set x19.toNat x20) at_.toNat)∧(at' (o_.set x19.toNat x20) at_.toNat)<(network.arcs.length:Int))) (
 bif (bif (decide (least<0))then true else(decide (((at' network.arcs ((at' (o_.set x19.toNat x20) at_.toNat).toNat)).left)<least)))then
 some ((at' network.arcs ((at' (o_.set x19.toNat x20) at_.toNat).toNat)).left)
 else
 some least)) fun least2=>
 dU (((0:Int)≤at_∧at_<((o_.set x19.toNat x20).length:Int))∧((0:Int)≤(IntKind.wrap .i64 (((BitVec.ofInt (IntKind.bits .i64) (at' (o_.set x19.toNat x20) at_.toNat) ^^^ BitVec.ofInt (IntKind.bits .i64) 1).toNat:Int)))∧(IntKind.wrap .i64 (((BitVec.ofInt (IntKind.bits .i64) (at' (o_.set x19.toNat x20) at_.toNat) ^^^ BitVec.ofInt (IntKind.bits .i64) 1).toNat:Int)))<(network.arcs.length:Int))) (
 some (.next (least2,(at' network.arcs ((IntKind.wrap .i64 (((BitVec.ofInt (IntKind.bits .i64) (at' (o_.set x19.toNat x20) at_.toNat) ^^^ BitVec.ofInt (IntKind.bits .i64) 1).toNat:Int))).toNat)).to_)))
 else
 some (.done (.brk least)))
def bC (x19:Int) (x20:Int) (o_:(List Int)) (least1:Int):((List aY) × Int)→Option (aM ((List aY) × Int) (Ex (List aY) (Nat × (List Int) × Network))):=
 fun zz=>match zz with
 |(o200,at_1)=>
 dU ((0:Int)≤at_1∧at_1<((o_.set x19.toNat x20).length:Int)) (
 bif (decide (0≤(at' (o_.set x19.toNat x20) at_1.toNat)))then
 dU (((0:Int)≤at_1∧at_1<((o_.set x19.toNat x20).length:Int))∧((0:Int)≤(at' (o_.set x19.toNat x20) at_1.toNat)∧(at' (o_.set x19.toNat x20) at_1.toNat)<(o200.length:Int))) (
 dU (((0:Int)≤at_1∧at_1<((o_.set x19.toNat x20).length:Int))∧((0:Int)≤(IntKind.wrap .i64 (((BitVec.ofInt (IntKind.bits .i64) (at' (o_.set x19.toNat x20) at_1.toNat) ^^^ BitVec.ofInt (IntKind.bits .i64) 1).toNat:Int)))∧(IntKind.wrap .i64 (((BitVec.ofInt (IntKind.bits .i64) (at' (o_.set x19.toNat x20) at_1.toNat) ^^^ BitVec.ofInt (IntKind.bits .i64) 1).toNat:Int)))<((o200.set ((at' (o_.set x19.toNat x20) at_1.toNat).toNat) (⟨(at' o200 ((at' (o_.set x19.toNat x20) at_1.toNat).toNat)).to_,(IntKind.wrap .i64 (((at' o200 ((at' (o_.set x19.toNat x20) at_1.toNat).toNat)).left) - least1))⟩:aY)).length:Int))) (
 dU (((0:Int)≤at_1∧at_1<((o_.set x19.toNat x20).length:Int))∧((0:Int)≤(IntKind.wrap .i64 (((BitVec.ofInt (IntKind.bits .i64) (at' (o_.set x19.toNat x20) at_1.toNat) ^^^ BitVec.ofInt (IntKind.bits .i64) 1).toNat:Int)))∧(IntKind.wrap .i64 (((BitVec.ofInt (IntKind.bits .i64) (at' (o_.set x19.toNat x20) at_1.toNat) ^^^ BitVec.ofInt (IntKind.bits .i64) 1).toNat:Int)))<(((o200.set ((at' (o_.set x19.toNat x20) at_1.toNat).toNat) (⟨(at' o200 ((at' (o_.set x19.toNat x20) at_1.toNat).toNat)).to_,(IntKind.wrap .i64 (((at' o200 ((at' (o_.set x19.toNat x20) at_1.toNat).toNat)).left) - least1))⟩:aY)).set ((IntKind.wrap .i64 (((BitVec.ofInt (IntKind.bits .i64) (at' (o_.set x19.toNat x20) at_1.toNat) ^^^ BitVec.ofInt (IntKind.bits .i64) 1).toNat:Int))).toNat) (⟨(at' (o200.set ((at' (o_.set x19.toNat x20) at_1.toNat).toNat) (⟨(at' o200 ((at' (o_.set x19.toNat x20) at_1.toNat).toNat)).to_,(IntKind.wrap .i64 (((at' o200 ((at' (o_.set x19.toNat x20) at_1.toNat).toNat)).left) - least1))⟩:aY)) ((IntKind.wrap .i64 (((BitVec.ofInt (IntKind.bits .i64) (at' (o_.set x19.toNat x20) at_1.toNat) ^^^ BitVec.ofInt (IntKind.bits .i64) 1).toNat:Int))).toNat)).to_,(IntKind.wrap .i64 (((at' (o200.set ((at' (o_.set x19.toNat x20) at_1.toNat).toNat) (⟨(at' o200 ((at' (o_.set x19.toNat x20) at_1.toNat).toNat)).to_,(IntKind.wrap .i64 (((at' o200 ((at' (o_.set x19.toNat x20) at_1.toNat).toNat)).left) - least1))⟩:aY)) ((IntKind.wrap .i64 (((BitVec.ofInt (IntKind.bits .i64) (at' (o_.set x19.toNat x20) at_1.toNat) ^^^ BitVec.ofInt (IntKind.bits .i64) 1).toNat:Int))).toNat)).left)+least1))⟩:aY)).length:Int))) (
 some (.next (((o200.set ((at' (o_.set x19.toNat x20) at_1.toNat).toNat) (⟨(at' o200 ((at' (o_.set x19.toNat x20) at_1.toNat).toNat)).to_,(IntKind.wrap .i64 (((at' o200 ((at' (o_.set x19.toNat x20) at_1.toNat).toNat)).left) - least1))⟩:aY)).set ((IntKind.wrap .i64 (((BitVec.ofInt (IntKind.bits .i64) (at' (o_.set x19.toNat x20) at_1.toNat) ^^^ BitVec.ofInt (IntKind.bits .i64) 1).toNat:Int))).toNat) (⟨(at' (o200.set ((at' (o_.set x19.toNat x20) at_1.toNat).toNat) (⟨(at' o200 ((at' (o_.set x19.toNat x20) at_1.toNat).toNat)).to_,(IntKind.wrap .i64 (((at' o200 ((at' (o_.set x19.toNat x20) at_1.toNat).toNat)).left) - least1))⟩:aY)) ((IntKind.wrap .i64 (((BitVec.ofInt (IntKind.bits .i64) (at' (o_.set x19.toNat x20) at_1.toNat) ^^^ BitVec.ofInt (IntKind.bits .i64) 1).toNat:Int))).toNat)).to_,(IntKind.wrap .i64 (((at' (o200.set ((at' (o_.set x19.toNat x20) at_1.toNat).toNat) (⟨(at' o200 ((at' (o_.set x19.toNat x20) at_1.toNat).toNat)).to_,(IntKind.wrap .i64 (((at' o200 ((at' (o_.set x19.toNat x20) at_1.toNat).toNat)).left) - least1))⟩:aY)) ((IntKind.wrap .i64 (((BitVec.ofInt (IntKind.bits .i64) (at' (o_.set x19.toNat x20) at_1.toNat) ^^^ BitVec.ofInt (IntKind.bits .i64) 1).toNat:Int))).toNat)).left)+least1))⟩:aY)),(at' ((o200.set ((at' (o_.set x19.toNat x20) at_1.toNat).toNat) (⟨(at' o200 ((at' (o_.set x19.toNat x20) at_1.toNat).toNat)).to_,(IntKind.wrap .i64 (((at' o200 ((at' (o_.set x19.toNat x20) at_1.toNat).toNat)).left) - least1))⟩:aY)).set ((IntKind.wrap .i64 (((BitVec.ofInt (IntKind.bits .i64) (at' (o_.set x19.toNat x20) at_1.toNat) ^^^ BitVec.ofInt (IntKind.bits .i64) 1).toNat:Int))).toNat) (⟨(at' (o200.set ((at' (o_.set x19.toNat x20) at_1.toNat).toNat) (⟨(at' o200 ((at' (o_.set x19.toNat x20) at_1.toNat).toNat)).to_,(IntKind.wrap .i64 (((at' o200 ((at' (o_.set x19.toNat x20) at_1.toNat).toNat)).left) - least1))⟩:aY)) ((IntKind.wrap .i64 (((BitVec.ofInt (IntKind.bits .i64) (at' (o_.set x19.toNat x20) at_1.toNat) ^^^ BitVec.ofInt (IntKind.bits .i64) 1).toNat:Int))).toNat)).to_,(IntKind.wrap .i64 (((at' (o200.set ((at' (o_.set x19.toNat x20) at_1.toNat).toNat) (⟨(at' o200 ((at' (o_.set x19.toNat x20) at_1.toNat).toNat)).to_,(IntKind.wrap .i64 (((at' o200 ((at' (o_.set x19.toNat x20) at_1.toNat).toNat)).left) - least1))⟩:aY)) ((IntKind.wrap .i64 (((BitVec.ofInt (IntKind.bits .i64) (at' (o_.set x19.toNat x20) at_1.toNat) ^^^ BitVec.ofInt (IntKind.bits .i64) 1).toNat:Int))).toNat)).left)+least1))⟩:aY)) ((IntKind.wrap .i64 (((BitVec.ofInt (IntKind.bits .i64) (at' (o_.set x19.toNat x20) at_1.toNat) ^^^ BitVec.ofInt (IntKind.bits .i64) 1).toNat:Int))).toNat)).to_)))))
 else
 some (.done (.brk o200)))
def bT (x19:Int) (x20:Int) (int:Int) (o_:(List Int)) (network:Network):Option (Nat × (List Int) × Network):=
 dU ((0:Int)≤x19∧x19<(o_.length:Int)) (
 bif (!decide (x19=int))then
 some (0,(o_.set x19.toNat x20),network)
 else
 Option.bind (aS (bD x19 x20 o_ network) FUEL ((-1),int)) fun o=>match o with
 | .ret v=>some v
 | .brk least1=>
 Option.bind (aS (bC x19 x20 o_ least1) FUEL (network.arcs,int)) fun o=>match o with
 | .ret v=>some v
 | .brk o2001=>
 some (2,(o_.set x19.toNat x20),(⟨o2001,network.from_⟩:Network)))
def iO (x:af) (o_:aH):Option aH:=
 dU (((o_.l.length+[x].length)*16≤140737488355328)∧(o_.l.length+[x].length≤4611686018427387904)) (
 some (⟨(o_.l++[x])⟩:aH))
def ig (o_:aH):Option (af × Bool × aH):=
 bif (decide ((o_.l.length:Int)=0))then
 some ((⟨0,0⟩:af),false,o_)
 else
 dU (((0:Int)≤0∧0<(o_.l.length:Int))∧((0:Int)≤(1:Int)∧(1:Int)≤(o_.l.length:Int))) (
 some ((at' o_.l 0),true,(⟨(o_.l.drop 1)⟩:aH)))
def bV (at0:Int) (r_:(Nat × (List Int) × Network)):((List Bool) × (List af) × Int)→Option (aM ((List Bool) × (List af) × Int) (Ex ((List Bool) × (List af)) (aM ((List aY) × (List (List Int)) × (List Int) × (List Bool) × (List af) × Int × Int) (Ex Unit (Nat × (List Int) × Network))))):=
 fun zz=>match zz with
 |(seen1,q01,t36)=>
 bif (decide (t36<((at' r_.2.2.from_ at0.toNat).length:Int)))then
 dU ((0:Int)≤t36∧t36<((at' r_.2.2.from_ at0.toNat).length:Int)) (
 dU ((0:Int)≤(at' (at' r_.2.2.from_ at0.toNat) t36.toNat)∧(at' (at' r_.2.2.from_ at0.toNat) t36.toNat)<(r_.2.2.arcs.length:Int)) (
 dU (gB [((decide (0<((at' r_.2.2.arcs ((at' (at' r_.2.2.from_ at0.toNat) t36.toNat).toNat)).left))),true)]=true→(0:Int)≤(at' r_.2.2.arcs ((at' (at' r_.2.2.from_ at0.toNat) t36.toNat).toNat)).to_∧(at' r_.2.2.arcs ((at' (at' r_.2.2.from_ at0.toNat) t36.toNat).toNat)).to_<(seen1.length:Int)) (
 bif (bif (decide (0<((at' r_.2.2.arcs ((at' (at' r_.2.2.from_ at0.toNat) t36.toNat).toNat)).left)))then(!(at' seen1 (((at' r_.2.2.arcs ((at' (at' r_.2.2.from_ at0.toNat) t36.toNat).toNat)).to_).toNat)))else false)then
 dU ((0:Int)≤(at' r_.2.2.arcs ((at' (at' r_.2.2.from_ at0.toNat) t36.toNat).toNat)).to_∧(at' r_.2.2.arcs ((at' (at' r_.2.2.from_ at0.toNat) t36.toNat).toNat)).to_<(seen1.length:Int)) (
 (iO (⟨(at' r_.2.2.arcs ((at' (at' r_.2.2.from_ at0.toNat) t36.toNat).toNat)).to_,(at' (at' r_.2.2.from_ at0.toNat) t36.toNat)⟩:af) (⟨q01⟩:aH)).bind fun r_1=>
 some (.next ((seen1.set (((at' r_.2.2.arcs ((at' (at' r_.2.2.from_ at0.toNat) t36.toNat).toNat)).to_).toNat) true),r_1.l,(IntKind.wrap .i64 (t36+1)))))
 else
 some (.next (seen1,q01,(IntKind.wrap .i64 (t36+1)))))))
 else
 some (.done (.brk (seen1,q01)))
def fG (int:Int):((List aY) × (List (List Int)) × (List Int) × (List Bool) × (List af) × Int × Int)→Option (aM ((List aY) × (List (List Int)) × (List Int) × (List Bool) × (List af) × Int × Int) (Ex Unit (Nat × (List Int) × Network))):=
 fun zz=>match zz with
 |(o200,o201,o40,seen,q0,at0,at1)=>
 (bT at0 at1 int o40 (⟨o200,o201⟩:Network)).bind fun r_=>
 bif (Nat.beq r_.1 0)then
 dU ((0:Int)≤at0∧at0<(r_.2.2.from_.length:Int)) (
 Option.bind (aS (bV at0 r_) FUEL (seen,q0,0)) fun o=>match o with
 | .ret v=>some v
 | .brk (seen2,q02)=>
 (ig (⟨q02⟩:aH)).bind fun r_2=>
 bif (!r_2.2.1)then
 some (.done (.ret (0,r_.2.1,r_.2.2)))
 else
 some (.next (r_.2.2.arcs,r_.2.2.from_,r_.2.1,seen2,r_2.2.2.l,r_2.1.e0,r_2.1.e1)))
 else
 some (.done (.ret (r_.1,r_.2.1,r_.2.2)))
def eU (int:Int) (o_:(List Int)) (network:Network):Option (Nat × (List Int) × Network):=
 dU (((0:Int)≤(network.from_.length:Int))∧((1:Int)*(network.from_.length:Int)≤281474976710656)∧(((network.from_.length:Int):Int)≤9223372036854775807)) (
 dU ((0:Int)≤0∧0<((List.replicate ((network.from_.length:Int).toNat) (false:Bool)).length:Int)) (
 Option.bind (aS (fG int) FUEL (network.arcs,network.from_,o_,((List.replicate ((network.from_.length:Int).toNat) (false:Bool)).set 0 true),([]:List af),0,(-1))) fun o=>match o with
 | .ret v=>some v
 | .brk _=>none))
def iK (sink:Int):((List aY) × (List (List Int)))→Option (aM ((List aY) × (List (List Int))) (Ex Unit Network)):=
 fun zz=>match zz with
 |(o0,o1)=>
 dU (((0:Int)≤(o1.length:Int))∧((8:Int)*(o1.length:Int)≤281474976710656)∧(((o1.length:Int):Int)≤9223372036854775807)) (
 (dR (⟨o0,o1⟩:Network)).bind fun r_=>
 (eU sink (List.replicate ((o1.length:Int).toNat) (0:Int)) (⟨o0,o1⟩:Network)).bind fun r_1=>
 bif Nat.beq r_1.1 0 then
 some (.done (.ret r_1.2.2))
 else
 dU (r_1.1=2) (
 some (.next (r_1.2.2.arcs,r_1.2.2.from_))))
def iD (sink:Int) (network:Network):Option Network:=
 Option.bind (aS (iK sink) FUEL (network.arcs,network.from_)) fun o=>match o with
 | .ret v=>some v
 | .brk _=>none
def jB (x236:Int) (x237:Int) (plant:ah) (o_:(List Bool)):Option (List Bool):=
 bif (bif (decide (0<x236))then(decide (x236≤plant.buses))else false)then
 dU ((0:Int)≤(IntKind.wrap .i64 (x236 - 1))∧(IntKind.wrap .i64 (x236 - 1))<(o_.length:Int)) (
 some (o_.set ((IntKind.wrap .i64 (x236 - 1)).toNat) true))
 else
 some o_
def bN (x1:(List aY)) (x11:(List (List Int))) (at0:Int):((List Bool) × (List af) × Int)→Option (aM ((List Bool) × (List af) × Int) (Ex ((List Bool) × (List af)) (aM ((List Bool) × (List Bool) × (List af) × Int × Int) (Ex Unit (List Bool))))):=
 fun zz=>match zz with
 |(seen1,q01,t36)=>
 bif (decide (t36<((at' x11 at0.toNat).length:Int)))then
 dU ((0:Int)≤t36∧t36<((at' x11 at0.toNat).length:Int)) (
 dU ((0:Int)≤(at' (at' x11 at0.toNat) t36.toNat)∧(at' (at' x11 at0.toNat) t36.toNat)<(x1.length:Int)) (
 dU (gB [((decide (0<((at' x1 ((at' (at' x11 at0.toNat) t36.toNat).toNat)).left))),true)]=true→(0:Int)≤(at' x1 ((at' (at' x11 at0.toNat) t36.toNat).toNat)).to_∧(at' x1 ((at' (at' x11 at0.toNat) t36.toNat).toNat)).to_<(seen1.length:Int)) (
 bif (bif (decide (0<((at' x1 ((at' (at' x11 at0.toNat) t36.toNat).toNat)).left)))then(!(at' seen1 (((at' x1 ((at' (at' x11 at0.toNat) t36.toNat).toNat)).to_).toNat)))else false)then
 dU ((0:Int)≤(at' x1 ((at' (at' x11 at0.toNat) t36.toNat).toNat)).to_∧(at' x1 ((at' (at' x11 at0.toNat) t36.toNat).toNat)).to_<(seen1.length:Int)) (
 (iO (⟨(at' x1 ((at' (at' x11 at0.toNat) t36.toNat).toNat)).to_,(at' (at' x11 at0.toNat) t36.toNat)⟩:af) (⟨q01⟩:aH)).bind fun r_1=>
 some (.next ((seen1.set (((at' x1 ((at' (at' x11 at0.toNat) t36.toNat).toNat)).to_).toNat) true),r_1.l,(IntKind.wrap .i64 (t36+1)))))
 else
 some (.next (seen1,q01,(IntKind.wrap .i64 (t36+1)))))))
 else
 some (.done (.brk (seen1,q01)))
def dS (x1:(List aY)) (x11:(List (List Int))) (plant:ah):((List Bool) × (List Bool) × (List af) × Int × Int)→Option (aM ((List Bool) × (List Bool) × (List af) × Int × Int) (Ex Unit (List Bool))):=
 fun zz=>match zz with
 |(o280,seen,q0,at0,at1)=>
 (jB at0 at1 plant o280).bind fun r_=>
 dU ((0:Int)≤at0∧at0<(x11.length:Int)) (
 Option.bind (aS (bN x1 x11 at0) FUEL (seen,q0,0)) fun o=>match o with
 | .ret v=>some v
 | .brk (seen2,q02)=>
 (ig (⟨q02⟩:aH)).bind fun r_2=>
 bif (!r_2.2.1)then
 some (.done (.ret r_))
 else
 some (.next (r_,seen2,r_2.2.2.l,r_2.1.e0,r_2.1.e1)))
def bU (x1:(List aY)) (x11:(List (List Int))) (plant:ah) (o_:(List Bool)):Option (List Bool):=
 dU (((0:Int)≤(x11.length:Int))∧((1:Int)*(x11.length:Int)≤281474976710656)∧(((x11.length:Int):Int)≤9223372036854775807)) (
 dU ((0:Int)≤0∧0<((List.replicate ((x11.length:Int).toNat) (false:Bool)).length:Int)) (
 Option.bind (aS (dS x1 x11 plant) FUEL (o_,((List.replicate ((x11.length:Int).toNat) (false:Bool)).set 0 true),([]:List af),0,(-1))) fun o=>match o with
 | .ret v=>some v
 | .brk _=>none))
def jr (p:ah) (s_:State):((List aY) × (List (List Int)) × (List (Int × Int)) × Int)→Option (aM ((List aY) × (List (List Int)) × (List (Int × Int)) × Int) (Ex ((List Source) × (List aY) × (List (List Int)) × (List Int) × (List (Int × Int))) (ai × (List Bool) × Int))):=
 fun zz=>match zz with
 |(n0,n1,sources,t68)=>
 bif (decide (t68<(p.sources.length:Int)))then
 dU ((0:Int)≤t68∧t68<(p.sources.length:Int)) (
 (gU p s_ t68).bind fun r_1=>
 bif r_1 then
 (dw 0 (IntKind.wrap .i64 ((1:Int)+((at' p.sources t68.toNat).bus))) ((at' p.sources t68.toNat).power) 0 (⟨n0,n1⟩:Network)).bind fun r_2=>
 some (.next (r_2.2.arcs,r_2.2.from_,(jF NJ t68 r_2.1 sources),(IntKind.wrap .i64 (t68+1))))
 else
 some (.next (n0,n1,sources,(IntKind.wrap .i64 (t68+1)))))
 else
 some (.done (.brk (p.sources,n0,n1,(List.replicate ((p.sources.length:Int).toNat) (0:Int)),sources)))
def jo (p:ah) (s_:State) (p1:(List Source)):((List aY) × (List (List Int)) × (List (Int × Int)) × Int)→Option (aM ((List aY) × (List (List Int)) × (List (Int × Int)) × Int) (Ex ((List Link) × (List aY) × (List (List Int)) × (List Int) × (List (Int × Int))) (ai × (List Bool) × Int))):=
 fun zz=>match zz with
 |(n02,n12,links,t90)=>
 bif (decide (t90<(p.links.length:Int)))then
 dU ((0:Int)≤t90∧t90<(p.links.length:Int)) (
 (dz (⟨p.buses,p1,p.links,p.racks⟩:ah) s_ t90).bind fun r_3=>
 bif r_3 then
 (dw (IntKind.wrap .i64 ((1:Int)+((at' p.links t90.toNat).a))) (IntKind.wrap .i64 ((1:Int)+((at' p.links t90.toNat).b))) ((at' p.links t90.toNat).most) ((at' p.links t90.toNat).most) (⟨n02,n12⟩:Network)).bind fun r_4=>
 some (.next (r_4.2.arcs,r_4.2.from_,(jF NJ t90 r_4.1 links),(IntKind.wrap .i64 (t90+1))))
 else
 some (.next (n02,n12,links,(IntKind.wrap .i64 (t90+1)))))
 else
 some (.done (.brk (p.links,n02,n12,(List.replicate ((p.links.length:Int).toNat) (0:Int)),links)))
def fV (p:ah) (s_:State) (t115:(List ay)) (t117:Int):((List aY) × (List (List Int)) × (List (af × Int)) × Int)→Option (aM ((List aY) × (List (List Int)) × (List (af × Int)) × Int) (Ex ((List aY) × (List (List Int)) × (List (af × Int))) (aM ((List ay) × Int × (List aY) × (List (List Int)) × (List af) × (List (af × Int)) × (List ay) × Int × Int) (Ex ((List ay) × Int × (List aY) × (List (List Int)) × (List af) × (List (af × Int))) (ai × (List Bool) × Int))))):=
 fun zz=>match zz with
 |(n06,n16,racks2,t134)=>
 bif (decide (t134<2))then
 dU ((0:Int)≤t134∧t134<((2:Nat):Int)) (
 (fO s_ (at' [((at' t115 t117.toNat).feeds).e0,((at' t115 t117.toNat).feeds).e1] t134.toNat)).bind fun r_6=>
 bif r_6 then
 (dw (IntKind.wrap .i64 ((1:Int)+(at' [((at' t115 t117.toNat).feeds).e0,((at' t115 t117.toNat).feeds).e1] t134.toNat))) (IntKind.wrap .i64 ((IntKind.wrap .i64 ((1:Int)+p.buses))+t117)) ((at' t115 t117.toNat).power) 0 (⟨n06,n16⟩:Network)).bind fun r_7=>
 some (.next (r_7.2.arcs,r_7.2.from_,(jF (fun a b=>(decide (a.e0=b.e0) && (decide (a.e1=b.e1) && true))) (⟨t117,t134⟩:af) r_7.1 racks2),(IntKind.wrap .i64 (t134+1))))
 else
 some (.next (n06,n16,racks2,(IntKind.wrap .i64 (t134+1)))))
 else
 some (.done (.brk (n06,n16,racks2)))
def jv (p:ah) (s_:State):((List ay) × Int × (List aY) × (List (List Int)) × (List af) × (List (af × Int)) × (List ay) × Int × Int)→Option (aM ((List ay) × Int × (List aY) × (List (List Int)) × (List af) × (List (af × Int)) × (List ay) × Int × Int) (Ex ((List ay) × Int × (List aY) × (List (List Int)) × (List af) × (List (af × Int))) (ai × (List Bool) × Int))):=
 fun zz=>match zz with
 |(p3,sink,n04,n14,x2,racks,t115,t116,t117)=>
 bif (decide (t117<t116))then
 dU ((0:Int)≤t117∧t117<(t115.length:Int)) (
 (dw (IntKind.wrap .i64 ((IntKind.wrap .i64 ((1:Int)+p.buses))+t117)) sink ((at' t115 t117.toNat).power) 0 (⟨n04,n14⟩:Network)).bind fun r_5=>
 Option.bind (aS (fV p s_ t115 t117) FUEL (r_5.2.arcs,r_5.2.from_,racks,0)) fun o=>match o with
 | .ret v=>some v
 | .brk (n07,n17,racks3)=>
 some (.next (p3,sink,n07,n17,x2,racks3,t115,t116,(IntKind.wrap .i64 (t117+1)))))
 else
 some (.done (.brk (p3,sink,n04,n14,x2,racks)))
def kI (sources1:(List (Int × Int))) (r_8:Network):(List Int)→Nat→Option (List Int):=
 fun x01 i=>
 dU (((0:Int)≤(IntKind.wrap .i64 (((BitVec.ofInt (IntKind.bits .i64) (at' (sources1.map Prod.snd) i) ^^^ BitVec.ofInt (IntKind.bits .i64) 1).toNat:Int)))∧(IntKind.wrap .i64 (((BitVec.ofInt (IntKind.bits .i64) (at' (sources1.map Prod.snd) i) ^^^ BitVec.ofInt (IntKind.bits .i64) 1).toNat:Int)))<(r_8.arcs.length:Int))∧((0:Int)≤(at' (sources1.map Prod.fst) i)∧(at' (sources1.map Prod.fst) i)<(x01.length:Int))) (
 some (x01.set ((at' (sources1.map Prod.fst) i).toNat) ((at' r_8.arcs ((IntKind.wrap .i64 (((BitVec.ofInt (IntKind.bits .i64) (at' (sources1.map Prod.snd) i) ^^^ BitVec.ofInt (IntKind.bits .i64) 1).toNat:Int))).toNat)).left)))
def kJ (p2:(List Link)) (links1:(List (Int × Int))) (r_8:Network):(List Int)→Nat→Option (List Int):=
 fun x11 i1=>
 dU (((0:Int)≤(at' (links1.map Prod.fst) i1)∧(at' (links1.map Prod.fst) i1)<(p2.length:Int))∧((0:Int)≤(at' (links1.map Prod.snd) i1)∧(at' (links1.map Prod.snd) i1)<(r_8.arcs.length:Int))∧((0:Int)≤(at' (links1.map Prod.fst) i1)∧(at' (links1.map Prod.fst) i1)<(x11.length:Int))) (
 some (x11.set ((at' (links1.map Prod.fst) i1).toNat) (IntKind.wrap .i64 (((at' p2 ((at' (links1.map Prod.fst) i1).toNat)).most) - ((at' r_8.arcs ((at' (links1.map Prod.snd) i1).toNat)).left)))))
def kK (racks1:(List (af × Int))) (r_8:Network):(List af)→Nat→Option (List af):=
 fun x22 i2=>
 bif (decide ((at' (racks1.map Prod.fst) i2).e1=0))then
 dU (((0:Int)≤(IntKind.wrap .i64 (((BitVec.ofInt (IntKind.bits .i64) (at' (racks1.map Prod.snd) i2) ^^^ BitVec.ofInt (IntKind.bits .i64) 1).toNat:Int)))∧(IntKind.wrap .i64 (((BitVec.ofInt (IntKind.bits .i64) (at' (racks1.map Prod.snd) i2) ^^^ BitVec.ofInt (IntKind.bits .i64) 1).toNat:Int)))<(r_8.arcs.length:Int))∧((0:Int)≤(at' (racks1.map Prod.fst) i2).e0∧(at' (racks1.map Prod.fst) i2).e0<(x22.length:Int))) (
 some (x22.set (((at' (racks1.map Prod.fst) i2).e0).toNat) (⟨(at' r_8.arcs ((IntKind.wrap .i64 (((BitVec.ofInt (IntKind.bits .i64) (at' (racks1.map Prod.snd) i2) ^^^ BitVec.ofInt (IntKind.bits .i64) 1).toNat:Int))).toNat)).left,(at' x22 (((at' (racks1.map Prod.fst) i2).e0).toNat)).e1⟩:af)))
 else
 dU ((at' (racks1.map Prod.fst) i2).e1=1) (
 dU (((0:Int)≤(IntKind.wrap .i64 (((BitVec.ofInt (IntKind.bits .i64) (at' (racks1.map Prod.snd) i2) ^^^ BitVec.ofInt (IntKind.bits .i64) 1).toNat:Int)))∧(IntKind.wrap .i64 (((BitVec.ofInt (IntKind.bits .i64) (at' (racks1.map Prod.snd) i2) ^^^ BitVec.ofInt (IntKind.bits .i64) 1).toNat:Int)))<(r_8.arcs.length:Int))∧((0:Int)≤(at' (racks1.map Prod.fst) i2).e0∧(at' (racks1.map Prod.fst) i2).e0<(x22.length:Int))) (
 some (x22.set (((at' (racks1.map Prod.fst) i2).e0).toNat) (⟨(at' x22 (((at' (racks1.map Prod.fst) i2).e0).toNat)).e0,(at' r_8.arcs ((IntKind.wrap .i64 (((BitVec.ofInt (IntKind.bits .i64) (at' (racks1.map Prod.snd) i2) ^^^ BitVec.ofInt (IntKind.bits .i64) 1).toNat:Int))).toNat)).left⟩:af))))
def fq (p:ah) (s_:State):Option (ai × (List Bool) × Int):=
 (dm p s_).bind fun r_=>
 bif (!decide (r_=0))then
 some ((⟨([]:List Int),([]:List Int),([]:List af)⟩:ai),([]:List Bool),r_)
 else
 dU (((0:Int)≤(IntKind.wrap .i64 ((IntKind.wrap .i64 ((IntKind.wrap .i64 ((1:Int)+p.buses))+(p.racks.length:Int)))+1)))∧((24:Int)*(IntKind.wrap .i64 ((IntKind.wrap .i64 ((IntKind.wrap .i64 ((1:Int)+p.buses))+(p.racks.length:Int)))+1))≤281474976710656)∧(((IntKind.wrap .i64 ((IntKind.wrap .i64 ((IntKind.wrap .i64 ((1:Int)+p.buses))+(p.racks.length:Int)))+1)):Int)≤9223372036854775807)) (
 dU (((0:Int)≤(p.sources.length:Int))∧((8:Int)*(p.sources.length:Int)≤281474976710656)∧(((p.sources.length:Int):Int)≤9223372036854775807)∧((0:Int)≤(p.links.length:Int))∧((8:Int)*(p.links.length:Int)≤281474976710656)∧(((p.links.length:Int):Int)≤9223372036854775807)∧((0:Int)≤(p.racks.length:Int))∧((16:Int)*(p.racks.length:Int)≤281474976710656)∧(((p.racks.length:Int):Int)≤9223372036854775807)) (
 Option.bind (aS (jr p s_) FUEL (([]:List aY),(List.replicate ((IntKind.wrap .i64 ((IntKind.wrap .i64 ((IntKind.wrap .i64 ((1:Int)+p.buses))+(p.racks.length:Int)))+1)).toNat) (([]:List Int):(List Int))),([]:(List (Int × Int))),0)) fun o=>match o with
 | .ret v=>some v
 | .brk (p1,n01,n11,x0,sources1)=>
 Option.bind (aS (jo p s_ p1) FUEL (n01,n11,([]:(List (Int × Int))),0)) fun o=>match o with
 | .ret v=>some v
 | .brk (p2,n03,n13,x1,links1)=>
 Option.bind (aS (jv p s_) FUEL (p.racks,(IntKind.wrap .i64 ((IntKind.wrap .i64 ((1:Int)+p.buses))+(p.racks.length:Int))),n03,n13,(List.replicate ((p.racks.length:Int).toNat) ((⟨0,0⟩:af):af)),([]:(List (af × Int))),p.racks,(p.racks.length:Int),0)) fun o=>match o with
 | .ret v=>some v
 | .brk (p31,sink1,n05,n15,x21,racks1)=>
 (iD sink1 (⟨n05,n15⟩:Network)).bind fun r_8=>
 Option.bind (wH (kI sources1 r_8) sources1.length (List.range sources1.length) (x0)) fun x02=>
 Option.bind (wH (kJ p2 links1 r_8) links1.length (List.range links1.length) (x1)) fun x12=>
 Option.bind (wH (kK racks1 r_8) racks1.length (List.range racks1.length) (x21)) fun x23=>
 dU (((0:Int)≤p.buses)∧((1:Int)*p.buses≤281474976710656)∧((p.buses:Int)≤9223372036854775807)) (
 (dR r_8).bind fun r_9=>
 (bU r_8.arcs r_8.from_ (⟨p.buses,p1,p2,p31⟩:ah) (List.replicate p.buses.toNat (false:Bool))).bind fun r_10=>
 some ((⟨x02,x12,x23⟩:ai),r_10,0))))
def lX (p:ah) (s_:State) (cut:(List Bool)):Option (Int × (List Source) × (List Link) × (List ay) × (List Bool) × (List Bool) × (List Bool) × (List Bool) × (List Bool) × (List Bool) × (List Bool) × (List Bool)):=
 some (p.buses,p.sources,p.links,p.racks,s_.closed,s_.locked,s_.badLink,s_.on_,s_.badSource,s_.earthed,s_.badBus,cut)
def jA (x25:Int) (x251:Int) (x26:Int) (part:(List Part)):Option (List Part):=
 bif (!decide (x25=0))then
 dU (((part.length+[(⟨x25,x251⟩:Part)].length)*16≤140737488355328)∧(part.length+[(⟨x25,x251⟩:Part)].length≤4611686018427387904)) (
 some (part++[(⟨x25,x251⟩:Part)]))
 else
 some part
def j6 (b:Int) (x1:(List Bool)):Option Bool:=
 dU (gB [((decide (0≤b)),true)]=true→(0:Int)≤b∧b<(x1.length:Int)) (
 some (bif (decide (0≤b))then(at' x1 b.toNat)else false))
def fE (s_:(List Int)) (f_:(List Bool)):Int→Option (aM Int (Ex Unit Int)):=
 fun t8=>
 bif (decide (t8<(s_.length:Int)))then
 (j6 (at' s_ t8.toNat) f_).bind fun r_=>
 dU ((0:Int)≤t8∧t8<(s_.length:Int)) (
 bif r_ then
 some (.done (.ret t8))
 else
 some (.next (IntKind.wrap .i64 (t8+1))))
 else
 some (.done (.brk ()))
def gM (s_:(List Int)) (f_:(List Bool)):Option Int:=
 Option.bind (aS (fE s_ f_) FUEL (0)) fun o=>match o with
 | .ret v=>some v
 | .brk _=>
 some (-1)
def cK (s_:(List Int)) (f_:(List Bool)):Option Bool:=
 (gM s_ f_).bind fun r_=>
 some (decide (0≤r_))
def rY (x1:Int) (x11:(List Source)) (x12:(List Link)) (x13:(List ay)) (x2:(List Bool)) (x21:(List Bool)) (x22:(List Bool)) (x23:(List Bool)) (x24:(List Bool)) (x25:(List Bool)) (x26:(List Bool)) (x3:(List Bool)):((List Part) × Int)→Option (aM ((List Part) × Int) (Ex (List Part) (List Part))):=
 fun zz=>match zz with
 |(o90,t15)=>
 bif (decide (t15<(x11.length:Int)))then
 dU ((0:Int)≤t15∧t15<(x11.length:Int)) (
 (gU (⟨x1,x11,x12,x13⟩:ah) (⟨x2,x21,x22,x23,x24,x25,x26⟩:State) t15).bind fun r_=>
 bif (bif r_ then(!(at' x3 (((at' x11 t15.toNat).bus).toNat)))else false)then
 (jA 2 t15 ((at' x11 t15.toNat).power) o90).bind fun r_1=>
 dU (gB [(r_,true)]=true→(0:Int)≤(at' x11 t15.toNat).bus∧(at' x11 t15.toNat).bus<(x3.length:Int)) (
 some (.next (r_1,(IntKind.wrap .i64 (t15+1)))))
 else
 dU (gB [(r_,true)]=true→(0:Int)≤(at' x11 t15.toNat).bus∧(at' x11 t15.toNat).bus<(x3.length:Int)) (
 some (.next (o90,(IntKind.wrap .i64 (t15+1))))))
 else
 some (.done (.brk o90))
def rX (x1:Int) (x11:(List Source)) (x12:(List Link)) (x13:(List ay)) (x2:(List Bool)) (x21:(List Bool)) (x22:(List Bool)) (x23:(List Bool)) (x24:(List Bool)) (x25:(List Bool)) (x26:(List Bool)) (x3:(List Bool)):((List Part) × Int)→Option (aM ((List Part) × Int) (Ex (List Part) (List Part))):=
 fun zz=>match zz with
 |(o902,t45)=>
 bif (decide (t45<(x12.length:Int)))then
 dU ((0:Int)≤t45∧t45<(x12.length:Int)) (
 (dz (⟨x1,x11,x12,x13⟩:ah) (⟨x2,x21,x22,x23,x24,x25,x26⟩:State) t45).bind fun r_2=>
 bif (bif r_2 then(!((at' x3 (((at' x12 t45.toNat).a).toNat))==(at' x3 (((at' x12 t45.toNat).b).toNat))))else false)then
 (jA 3 t45 ((at' x12 t45.toNat).most) o902).bind fun r_3=>
 dU ((gB [(r_2,true)]=true→(0:Int)≤(at' x12 t45.toNat).a∧(at' x12 t45.toNat).a<(x3.length:Int))∧(gB [(r_2,true)]=true→(0:Int)≤(at' x12 t45.toNat).b∧(at' x12 t45.toNat).b<(x3.length:Int))) (
 some (.next (r_3,(IntKind.wrap .i64 (t45+1)))))
 else
 dU ((gB [(r_2,true)]=true→(0:Int)≤(at' x12 t45.toNat).a∧(at' x12 t45.toNat).a<(x3.length:Int))∧(gB [(r_2,true)]=true→(0:Int)≤(at' x12 t45.toNat).b∧(at' x12 t45.toNat).b<(x3.length:Int))) (
 some (.next (o902,(IntKind.wrap .i64 (t45+1))))))
 else
 some (.done (.brk o902))
def rZ (x13:(List ay)) (x3:(List Bool)):((List Part) × Int)→Option (aM ((List Part) × Int) (Ex (List Part) (List Part))):=
 fun zz=>match zz with
 |(o904,t80)=>
 bif (decide (t80<(x13.length:Int)))then
 dU ((0:Int)≤t80∧t80<(x13.length:Int)) (
 (cK [((at' x13 t80.toNat).feeds).e0,((at' x13 t80.toNat).feeds).e1] x3).bind fun r_4=>
 bif r_4 then
 (jA 0 t80 ((at' x13 t80.toNat).power) o904).bind fun r_5=>
 some (.next (r_5,(IntKind.wrap .i64 (t80+1))))
 else
 some (.next (o904,(IntKind.wrap .i64 (t80+1)))))
 else
 some (.done (.brk o904))
def qI (x1:Int) (x11:(List Source)) (x12:(List Link)) (x13:(List ay)) (x2:(List Bool)) (x21:(List Bool)) (x22:(List Bool)) (x23:(List Bool)) (x24:(List Bool)) (x25:(List Bool)) (x26:(List Bool)) (x3:(List Bool)) (part:(List Part)):Option (List Part):=
 Option.bind (aS (rY x1 x11 x12 x13 x2 x21 x22 x23 x24 x25 x26 x3) FUEL (part,0)) fun o=>match o with
 | .ret v=>some v
 | .brk o901=>
 Option.bind (aS (rX x1 x11 x12 x13 x2 x21 x22 x23 x24 x25 x26 x3) FUEL (o901,0)) fun o=>match o with
 | .ret v=>some v
 | .brk o903=>
 Option.bind (aS (rZ x13 x3) FUEL (o903,0)) fun o=>match o with
 | .ret v=>some v
 | .brk o905=>
 some o905
def yL (p:ah) (s_:State):Option ((List Part) × Int):=
 (fq p s_).bind fun r_=>
 bif (!decide (r_.2.2=0))then
 some (([]:List Part),r_.2.2)
 else
 (lX p s_ r_.2.1).bind fun r_1=>
 (qI r_1.1 r_1.2.1 r_1.2.2.1 r_1.2.2.2.1 r_1.2.2.2.2.1 r_1.2.2.2.2.2.1 r_1.2.2.2.2.2.2.1 r_1.2.2.2.2.2.2.2.1 r_1.2.2.2.2.2.2.2.2.1 r_1.2.2.2.2.2.2.2.2.2.1 r_1.2.2.2.2.2.2.2.2.2.2.1 r_1.2.2.2.2.2.2.2.2.2.2.2 ([]:List Part)).bind fun r_2=>
 some (r_2,0)
def iN (x:ai):(Int × Int)→Option (aM (Int × Int) (Ex Int Int)):=
 fun zz=>match zz with
 |(n,t9)=>
 bif (decide (t9<(x.racks.length:Int)))then
 dU ((0:Int)≤t9∧t9<(x.racks.length:Int)) (
 some (.next ((IntKind.wrap .i64 (n+(IntKind.wrap .i64 (((at' x.racks t9.toNat).e0)+((at' x.racks t9.toNat).e1))))),(IntKind.wrap .i64 (t9+1)))))
 else
 some (.done (.brk n))
def eT (x:ai):Option Int:=
 Option.bind (aS (iN x) FUEL (0,0)) fun o=>match o with
 | .ret v=>some v
 | .brk n1=>
 some n1
def Aw (p:ah):(Int × Int)→Option (aM (Int × Int) (Ex Int (Bool × Int))):=
 fun zz=>match zz with
 |(n,t25)=>
 bif (decide (t25<(p.racks.length:Int)))then
 dU ((0:Int)≤t25∧t25<(p.racks.length:Int)) (
 some (.next ((IntKind.wrap .i64 (n+((at' p.racks t25.toNat).power))),(IntKind.wrap .i64 (t25+1)))))
 else
 some (.done (.brk n))
def AR (p:ah) (s_:State):Option (Bool × Int):=
 (fq p s_).bind fun r_=>
 bif (!decide (r_.2.2=0))then
 some (false,r_.2.2)
 else
 Option.bind (aS (Aw p) FUEL (0,0)) fun o=>match o with
 | .ret v=>some v
 | .brk n1=>
 (eT r_.1).bind fun r_1=>
 some ((decide (r_1=n1)),0)
def uH (a:(List Part)) (b:(List Part)):Int→Option (aM Int (Ex Unit Bool)):=
 fun i=>
 bif (decide (i<(a.length:Int)))then
 dU (((0:Int)≤i∧i<(a.length:Int))∧((0:Int)≤i∧i<(b.length:Int))) (
 bif (!((decide (((at' a i.toNat).kind)=((at' b i.toNat).kind))) && ((decide (((at' a i.toNat).index)=((at' b i.toNat).index))) && true)))then
 some (.done (.ret false))
 else
 some (.next (IntKind.wrap .i64 (i+1))))
 else
 some (.done (.brk ()))
def nU (a:(List Part)) (b:(List Part)):Option Bool:=
 bif (!decide ((a.length:Int)=(b.length:Int)))then
 some false
 else
 Option.bind (aS (uH a b) FUEL (0)) fun o=>match o with
 | .ret v=>some v
 | .brk _=>
 some true
def cO (x45:Int) (x451:Int) (x46:Int) (int:Int):Option Int:=
 some (IntKind.wrap .i64 (int+x46))
def iM (x1:Int) (x11:(List Source)) (x12:(List Link)) (x13:(List ay)) (x2:(List Bool)) (x21:(List Bool)) (x22:(List Bool)) (x23:(List Bool)) (x24:(List Bool)) (x25:(List Bool)) (x26:(List Bool)) (x3:(List Bool)):(Int × Int)→Option (aM (Int × Int) (Ex Int Int)):=
 fun zz=>match zz with
 |(o110,t15)=>
 bif (decide (t15<(x11.length:Int)))then
 dU ((0:Int)≤t15∧t15<(x11.length:Int)) (
 (gU (⟨x1,x11,x12,x13⟩:ah) (⟨x2,x21,x22,x23,x24,x25,x26⟩:State) t15).bind fun r_=>
 bif (bif r_ then(!(at' x3 (((at' x11 t15.toNat).bus).toNat)))else false)then
 (cO 2 t15 ((at' x11 t15.toNat).power) o110).bind fun r_1=>
 dU (gB [(r_,true)]=true→(0:Int)≤(at' x11 t15.toNat).bus∧(at' x11 t15.toNat).bus<(x3.length:Int)) (
 some (.next (r_1,(IntKind.wrap .i64 (t15+1)))))
 else
 dU (gB [(r_,true)]=true→(0:Int)≤(at' x11 t15.toNat).bus∧(at' x11 t15.toNat).bus<(x3.length:Int)) (
 some (.next (o110,(IntKind.wrap .i64 (t15+1))))))
 else
 some (.done (.brk o110))
def iH (x1:Int) (x11:(List Source)) (x12:(List Link)) (x13:(List ay)) (x2:(List Bool)) (x21:(List Bool)) (x22:(List Bool)) (x23:(List Bool)) (x24:(List Bool)) (x25:(List Bool)) (x26:(List Bool)) (x3:(List Bool)):(Int × Int)→Option (aM (Int × Int) (Ex Int Int)):=
 fun zz=>match zz with
 |(o1102,t45)=>
 bif (decide (t45<(x12.length:Int)))then
 dU ((0:Int)≤t45∧t45<(x12.length:Int)) (
 (dz (⟨x1,x11,x12,x13⟩:ah) (⟨x2,x21,x22,x23,x24,x25,x26⟩:State) t45).bind fun r_2=>
 bif (bif r_2 then(!((at' x3 (((at' x12 t45.toNat).a).toNat))==(at' x3 (((at' x12 t45.toNat).b).toNat))))else false)then
 (cO 3 t45 ((at' x12 t45.toNat).most) o1102).bind fun r_3=>
 dU ((gB [(r_2,true)]=true→(0:Int)≤(at' x12 t45.toNat).a∧(at' x12 t45.toNat).a<(x3.length:Int))∧(gB [(r_2,true)]=true→(0:Int)≤(at' x12 t45.toNat).b∧(at' x12 t45.toNat).b<(x3.length:Int))) (
 some (.next (r_3,(IntKind.wrap .i64 (t45+1)))))
 else
 dU ((gB [(r_2,true)]=true→(0:Int)≤(at' x12 t45.toNat).a∧(at' x12 t45.toNat).a<(x3.length:Int))∧(gB [(r_2,true)]=true→(0:Int)≤(at' x12 t45.toNat).b∧(at' x12 t45.toNat).b<(x3.length:Int))) (
 some (.next (o1102,(IntKind.wrap .i64 (t45+1))))))
 else
 some (.done (.brk o1102))
def iJ (x13:(List ay)) (x3:(List Bool)):(Int × Int)→Option (aM (Int × Int) (Ex Int Int)):=
 fun zz=>match zz with
 |(o1104,t80)=>
 bif (decide (t80<(x13.length:Int)))then
 dU ((0:Int)≤t80∧t80<(x13.length:Int)) (
 (cK [((at' x13 t80.toNat).feeds).e0,((at' x13 t80.toNat).feeds).e1] x3).bind fun r_4=>
 bif r_4 then
 (cO 0 t80 ((at' x13 t80.toNat).power) o1104).bind fun r_5=>
 some (.next (r_5,(IntKind.wrap .i64 (t80+1))))
 else
 some (.next (o1104,(IntKind.wrap .i64 (t80+1)))))
 else
 some (.done (.brk o1104))
def iE (x1:Int) (x11:(List Source)) (x12:(List Link)) (x13:(List ay)) (x2:(List Bool)) (x21:(List Bool)) (x22:(List Bool)) (x23:(List Bool)) (x24:(List Bool)) (x25:(List Bool)) (x26:(List Bool)) (x3:(List Bool)) (int:Int):Option Int:=
 Option.bind (aS (iM x1 x11 x12 x13 x2 x21 x22 x23 x24 x25 x26 x3) FUEL (int,0)) fun o=>match o with
 | .ret v=>some v
 | .brk o1101=>
 Option.bind (aS (iH x1 x11 x12 x13 x2 x21 x22 x23 x24 x25 x26 x3) FUEL (o1101,0)) fun o=>match o with
 | .ret v=>some v
 | .brk o1103=>
 Option.bind (aS (iJ x13 x3) FUEL (o1103,0)) fun o=>match o with
 | .ret v=>some v
 | .brk o1105=>
 some o1105
def kE (s_:State) (cut:(List Bool)):Int→Option (aM Int (Ex Unit (Int × Int))):=
 fun t27=>
 bif (decide (t27<(cut.length:Int)))then
 dU ((0:Int)≤t27∧t27<(cut.length:Int)) (
 dU (gB [((at' cut t27.toNat),true)]=true→(0:Int)≤t27∧t27<(s_.badBus.length:Int)) (
 bif (bif (at' cut t27.toNat)then(at' s_.badBus t27.toNat)else false)then
 some (.done (.ret (0,1)))
 else
 some (.next (IntKind.wrap .i64 (t27+1)))))
 else
 some (.done (.brk ()))
def iy (p:ah) (s_:State) (cut:(List Bool)):Option (Int × Int):=
 (dm p s_).bind fun r_=>
 bif (!decide (r_=0))then
 some (0,r_)
 else
 bif (!decide ((cut.length:Int)=p.buses))then
 some (0,1)
 else
 Option.bind (aS (kE s_ cut) FUEL (0)) fun o=>match o with
 | .ret v=>some v
 | .brk _=>
 (lX p s_ cut).bind fun r_1=>
 (iE r_1.1 r_1.2.1 r_1.2.2.1 r_1.2.2.2.1 r_1.2.2.2.2.1 r_1.2.2.2.2.2.1 r_1.2.2.2.2.2.2.1 r_1.2.2.2.2.2.2.2.1 r_1.2.2.2.2.2.2.2.2.1 r_1.2.2.2.2.2.2.2.2.2.1 r_1.2.2.2.2.2.2.2.2.2.2.1 r_1.2.2.2.2.2.2.2.2.2.2.2 0).bind fun r_2=>
 some (r_2,0)
def sZ  :Option Unit:=
 some ()
def lC (p:ah) (s_:State) (x:ai):Int→Option (aM Int (Ex Unit Bool)):=
 fun t14=>
 bif (decide (t14<(x.sources.length:Int)))then
 dU ((0:Int)≤t14∧t14<(x.sources.length:Int)) (
 (bif gB [((decide (0<(at' x.sources t14.toNat))),true),((bif (decide ((at' x.sources t14.toNat)<0))then true else(decide (((at' p.sources t14.toNat).power)<(at' x.sources t14.toNat)))),false)]then gU p s_ t14 else some default).bind fun r_=>
 dU (gB [((decide ((at' x.sources t14.toNat)<0)),false)]=true→(0:Int)≤t14∧t14<(p.sources.length:Int)) (
 bif (bif (bif (decide ((at' x.sources t14.toNat)<0))then true else(decide (((at' p.sources t14.toNat).power)<(at' x.sources t14.toNat))))then true else(bif (decide (0<(at' x.sources t14.toNat)))then(!r_)else false))then
 some (.done (.ret false))
 else
 some (.next (IntKind.wrap .i64 (t14+1)))))
 else
 some (.done (.brk ()))
def lK (p:ah) (s_:State) (x:ai):Int→Option (aM Int (Ex Unit Bool)):=
 fun t46=>
 bif (decide (t46<(x.links.length:Int)))then
 dU ((0:Int)≤t46∧t46<(x.links.length:Int)) (
 (bif gB [((!decide ((at' x.links t46.toNat)=0)),true),((bif (decide ((at' x.links t46.toNat)<(IntKind.wrap .i64 (0 - ((at' p.links t46.toNat).most)))))then true else(decide (((at' p.links t46.toNat).most)<(at' x.links t46.toNat)))),false)]then dz p s_ t46 else some default).bind fun r_1=>
 dU (((0:Int)≤t46∧t46<(p.links.length:Int))∧(gB [((decide ((at' x.links t46.toNat)<(IntKind.wrap .i64 (0 - ((at' p.links t46.toNat).most))))),false)]=true→(0:Int)≤t46∧t46<(p.links.length:Int))) (
 bif (bif (bif (decide ((at' x.links t46.toNat)<(IntKind.wrap .i64 (0 - ((at' p.links t46.toNat).most)))))then true else(decide (((at' p.links t46.toNat).most)<(at' x.links t46.toNat))))then true else(bif (!decide ((at' x.links t46.toNat)=0))then(!r_1)else false))then
 some (.done (.ret false))
 else
 some (.next (IntKind.wrap .i64 (t46+1)))))
 else
 some (.done (.brk ()))
def mG (p:ah) (s_:State) (x:ai):Option Bool:=
 Option.bind (aS (lC p s_ x) FUEL (0)) fun o=>match o with
 | .ret v=>some v
 | .brk _=>
 Option.bind (aS (lK p s_ x) FUEL (0)) fun o=>match o with
 | .ret v=>some v
 | .brk _=>
 some true
def fo (p:ah) (s_:State) (x:ai) (t14:Int):Int→Option (aM Int (Ex Unit (aM Int (Ex Unit Bool)))):=
 fun t20=>
 bif (decide (t20<2))then
 dU ((0:Int)≤t20∧t20<((2:Nat):Int)) (
 bif (decide (t20=0))then
 (bif gB [((decide (0<(at' [(at' x.racks t14.toNat).e0,(at' x.racks t14.toNat).e1] t20.toNat))),true),((bif (decide ((at' [(at' x.racks t14.toNat).e0,(at' x.racks t14.toNat).e1] t20.toNat)<0))then true else(decide (((at' p.racks t14.toNat).power)<(at' [(at' x.racks t14.toNat).e0,(at' x.racks t14.toNat).e1] t20.toNat)))),false)]then fO s_ (((at' p.racks t14.toNat).feeds).e0)else some default).bind fun r_=>
 dU ((gB [((decide ((at' [(at' x.racks t14.toNat).e0,(at' x.racks t14.toNat).e1] t20.toNat)<0)),false)]=true→(0:Int)≤t14∧t14<(p.racks.length:Int))∧(gB [((decide (0<(at' [(at' x.racks t14.toNat).e0,(at' x.racks t14.toNat).e1] t20.toNat))),true),((bif (decide ((at' [(at' x.racks t14.toNat).e0,(at' x.racks t14.toNat).e1] t20.toNat)<0))then true else(decide (((at' p.racks t14.toNat).power)<(at' [(at' x.racks t14.toNat).e0,(at' x.racks t14.toNat).e1] t20.toNat)))),false)]=true→(0:Int)≤t14∧t14<(p.racks.length:Int))) (
 bif (bif (bif (decide ((at' [(at' x.racks t14.toNat).e0,(at' x.racks t14.toNat).e1] t20.toNat)<0))then true else(decide (((at' p.racks t14.toNat).power)<(at' [(at' x.racks t14.toNat).e0,(at' x.racks t14.toNat).e1] t20.toNat))))then true else(bif (decide (0<(at' [(at' x.racks t14.toNat).e0,(at' x.racks t14.toNat).e1] t20.toNat)))then(!r_)else false))then
 some (.done (.ret (.done (.ret false))))
 else
 some (.next 1))
 else
 dU (t20=1) (
 (bif gB [((decide (0<(at' [(at' x.racks t14.toNat).e0,(at' x.racks t14.toNat).e1] t20.toNat))),true),((bif (decide ((at' [(at' x.racks t14.toNat).e0,(at' x.racks t14.toNat).e1] t20.toNat)<0))then true else(decide (((at' p.racks t14.toNat).power)<(at' [(at' x.racks t14.toNat).e0,(at' x.racks t14.toNat).e1] t20.toNat)))),false)]then fO s_ (((at' p.racks t14.toNat).feeds).e1)else some default).bind fun r_1=>
 dU ((gB [((decide ((at' [(at' x.racks t14.toNat).e0,(at' x.racks t14.toNat).e1] t20.toNat)<0)),false)]=true→(0:Int)≤t14∧t14<(p.racks.length:Int))∧(gB [((decide (0<(at' [(at' x.racks t14.toNat).e0,(at' x.racks t14.toNat).e1] t20.toNat))),true),((bif (decide ((at' [(at' x.racks t14.toNat).e0,(at' x.racks t14.toNat).e1] t20.toNat)<0))then true else(decide (((at' p.racks t14.toNat).power)<(at' [(at' x.racks t14.toNat).e0,(at' x.racks t14.toNat).e1] t20.toNat)))),false)]=true→(0:Int)≤t14∧t14<(p.racks.length:Int))) (
 bif (bif (bif (decide ((at' [(at' x.racks t14.toNat).e0,(at' x.racks t14.toNat).e1] t20.toNat)<0))then true else(decide (((at' p.racks t14.toNat).power)<(at' [(at' x.racks t14.toNat).e0,(at' x.racks t14.toNat).e1] t20.toNat))))then true else(bif (decide (0<(at' [(at' x.racks t14.toNat).e0,(at' x.racks t14.toNat).e1] t20.toNat)))then(!r_1)else false))then
 some (.done (.ret (.done (.ret false))))
 else
 some (.next 2))))
 else
 some (.done (.brk ()))
def nV (p:ah) (s_:State) (x:ai):Int→Option (aM Int (Ex Unit Bool)):=
 fun t14=>
 bif (decide (t14<(x.racks.length:Int)))then
 dU ((0:Int)≤t14∧t14<(x.racks.length:Int)) (
 Option.bind (aS (fo p s_ x t14) FUEL (0)) fun o=>match o with
 | .ret v=>some v
 | .brk _=>
 dU ((0:Int)≤t14∧t14<(p.racks.length:Int)) (
 bif (decide (((at' p.racks t14.toNat).power)<(IntKind.wrap .i64 (((at' x.racks t14.toNat).e0)+((at' x.racks t14.toNat).e1)))))then
 some (.done (.ret false))
 else
 some (.next (IntKind.wrap .i64 (t14+1)))))
 else
 some (.done (.brk ()))
def oN (p:ah) (s_:State) (x:ai):Option Bool:=
 Option.bind (aS (nV p s_ x) FUEL (0)) fun o=>match o with
 | .ret v=>some v
 | .brk _=>
 some true
def kU (n:Int):Option Bool:=
 some (!decide (n=0))
def fF (s_:(List Int)):Int→Option (aM Int (Ex Unit Int)):=
 fun t8=>
 bif (decide (t8<(s_.length:Int)))then
 (kU (at' s_ t8.toNat)).bind fun r_=>
 dU ((0:Int)≤t8∧t8<(s_.length:Int)) (
 bif r_ then
 some (.done (.ret t8))
 else
 some (.next (IntKind.wrap .i64 (t8+1))))
 else
 some (.done (.brk ()))
def gQ (s_:(List Int)):Option Int:=
 Option.bind (aS (fF s_) FUEL (0)) fun o=>match o with
 | .ret v=>some v
 | .brk _=>
 some (-1)
def cu (s_:(List Int)):Option Bool:=
 (gQ s_).bind fun r_=>
 some (decide (0≤r_))
def iZ (p:ah) (x:ai):((List Int) × Int)→Option (aM ((List Int) × Int) (Ex (List Int) Bool)):=
 fun zz=>match zz with
 |(left,t22)=>
 bif (decide (t22<(x.sources.length:Int)))then
 dU ((0:Int)≤t22∧t22<(x.sources.length:Int)) (
 dU (((0:Int)≤t22∧t22<(p.sources.length:Int))∧((0:Int)≤(at' p.sources t22.toNat).bus∧(at' p.sources t22.toNat).bus<(left.length:Int))) (
 some (.next ((left.set (((at' p.sources t22.toNat).bus).toNat) (IntKind.wrap .i64 ((at' left (((at' p.sources t22.toNat).bus).toNat))+(at' x.sources t22.toNat)))),(IntKind.wrap .i64 (t22+1))))))
 else
 some (.done (.brk left))
def iU (p:ah) (x:ai):((List Int) × Int)→Option (aM ((List Int) × Int) (Ex (List Int) Bool)):=
 fun zz=>match zz with
 |(left2,t43)=>
 bif (decide (t43<(x.links.length:Int)))then
 dU ((0:Int)≤t43∧t43<(x.links.length:Int)) (
 dU (((0:Int)≤t43∧t43<(p.links.length:Int))∧((0:Int)≤(at' p.links t43.toNat).a∧(at' p.links t43.toNat).a<(left2.length:Int))) (
 dU (((0:Int)≤t43∧t43<(p.links.length:Int))∧((0:Int)≤(at' p.links t43.toNat).b∧(at' p.links t43.toNat).b<((left2.set (((at' p.links t43.toNat).a).toNat) (IntKind.wrap .i64 ((at' left2 (((at' p.links t43.toNat).a).toNat)) - (at' x.links t43.toNat)))).length:Int))) (
 some (.next (((left2.set (((at' p.links t43.toNat).a).toNat) (IntKind.wrap .i64 ((at' left2 (((at' p.links t43.toNat).a).toNat)) - (at' x.links t43.toNat)))).set (((at' p.links t43.toNat).b).toNat) (IntKind.wrap .i64 ((at' (left2.set (((at' p.links t43.toNat).a).toNat) (IntKind.wrap .i64 ((at' left2 (((at' p.links t43.toNat).a).toNat)) - (at' x.links t43.toNat)))) (((at' p.links t43.toNat).b).toNat))+(at' x.links t43.toNat)))),(IntKind.wrap .i64 (t43+1)))))))
 else
 some (.done (.brk left2))
def dM (p:ah) (x:ai) (t76:Int):((List Int) × Int)→Option (aM ((List Int) × Int) (Ex (List Int) (aM ((List Int) × Int) (Ex (List Int) Bool)))):=
 fun zz=>match zz with
 |(left6,t87)=>
 bif (decide (t87<2))then
 dU ((0:Int)≤t87∧t87<((2:Nat):Int)) (
 bif (decide (0≤(at' [((at' p.racks t76.toNat).feeds).e0,((at' p.racks t76.toNat).feeds).e1] t87.toNat)))then
 bif (decide (t87=0))then
 dU ((0:Int)≤(at' [((at' p.racks t76.toNat).feeds).e0,((at' p.racks t76.toNat).feeds).e1] t87.toNat)∧(at' [((at' p.racks t76.toNat).feeds).e0,((at' p.racks t76.toNat).feeds).e1] t87.toNat)<(left6.length:Int)) (
 some (.next ((left6.set ((at' [((at' p.racks t76.toNat).feeds).e0,((at' p.racks t76.toNat).feeds).e1] t87.toNat).toNat) (IntKind.wrap .i64 ((at' left6 ((at' [((at' p.racks t76.toNat).feeds).e0,((at' p.racks t76.toNat).feeds).e1] t87.toNat).toNat)) - ((at' x.racks t76.toNat).e0)))),1)))
 else
 dU (t87=1) (
 dU ((0:Int)≤(at' [((at' p.racks t76.toNat).feeds).e0,((at' p.racks t76.toNat).feeds).e1] t87.toNat)∧(at' [((at' p.racks t76.toNat).feeds).e0,((at' p.racks t76.toNat).feeds).e1] t87.toNat)<(left6.length:Int)) (
 some (.next ((left6.set ((at' [((at' p.racks t76.toNat).feeds).e0,((at' p.racks t76.toNat).feeds).e1] t87.toNat).toNat) (IntKind.wrap .i64 ((at' left6 ((at' [((at' p.racks t76.toNat).feeds).e0,((at' p.racks t76.toNat).feeds).e1] t87.toNat).toNat)) - ((at' x.racks t76.toNat).e1)))),2))))
 else
 some (.next (left6,(IntKind.wrap .i64 (t87+1)))))
 else
 some (.done (.brk left6))
def iV (p:ah) (x:ai):((List Int) × Int)→Option (aM ((List Int) × Int) (Ex (List Int) Bool)):=
 fun zz=>match zz with
 |(left4,t76)=>
 bif (decide (t76<(x.racks.length:Int)))then
 dU ((0:Int)≤t76∧t76<(x.racks.length:Int)) (
 dU ((0:Int)≤t76∧t76<(p.racks.length:Int)) (
 Option.bind (aS (dM p x t76) FUEL (left4,0)) fun o=>match o with
 | .ret v=>some v
 | .brk left7=>
 some (.next (left7,(IntKind.wrap .i64 (t76+1))))))
 else
 some (.done (.brk left4))
def kH (p:ah) (s_:State) (x:ai):Option Bool:=
 dU (((0:Int)≤p.buses)∧((8:Int)*p.buses≤281474976710656)∧((p.buses:Int)≤9223372036854775807)) (
 Option.bind (aS (iZ p x) FUEL ((List.replicate p.buses.toNat (0:Int)),0)) fun o=>match o with
 | .ret v=>some v
 | .brk left1=>
 Option.bind (aS (iU p x) FUEL (left1,0)) fun o=>match o with
 | .ret v=>some v
 | .brk left3=>
 Option.bind (aS (iV p x) FUEL (left3,0)) fun o=>match o with
 | .ret v=>some v
 | .brk left5=>
 (cu left5).bind fun r_=>
 some (!r_))
def iB (p:ah) (s_:State) (x:ai):Option Int:=
 (dm p s_).bind fun r_=>
 bif (!decide (r_=0))then
 some r_
 else
 bif (bif (bif (!decide ((x.sources.length:Int)=(p.sources.length:Int)))then true else(!decide ((x.links.length:Int)=(p.links.length:Int))))then true else(!decide ((x.racks.length:Int)=(p.racks.length:Int))))then
 some 20
 else
 (sZ).bind fun r_1=>
 dU ((0:Int)≤0∧0<(3:Int)) (
 (mG p s_ x).bind fun r_2=>
 bif (!r_2)then
 some 20
 else
 dU ((0:Int)≤1∧1<(3:Int)) (
 (oN p s_ x).bind fun r_3=>
 bif (!r_3)then
 some 20
 else
 dU ((0:Int)≤2∧2<(3:Int)) (
 (kH p s_ x).bind fun r_4=>
 bif (!r_4)then
 some 20
 else
 some 0)))
def fe (p:ah) (s_:State) (x:ai) (cut:(List Bool)):Option Int:=
 (iB p s_ x).bind fun r_=>
 bif (!decide (r_=0))then
 some r_
 else
 (iy p s_ cut).bind fun r_1=>
 (bif gB [((decide (r_1.2=0)),true)]then eT x else some default).bind fun r_2=>
 bif (bif (decide (r_1.2=0))then(!decide (r_1.1=r_2))else false)then
 some 7
 else
 some r_1.2
def wu (a:(List Int)) (b:(List Int)):Int→Option (aM Int (Ex Unit Bool)):=
 fun i=>
 bif (decide (i<(a.length:Int)))then
 dU (((0:Int)≤i∧i<(a.length:Int))∧((0:Int)≤i∧i<(b.length:Int))) (
 bif (!decide ((at' a i.toNat)=(at' b i.toNat)))then
 some (.done (.ret false))
 else
 some (.next (IntKind.wrap .i64 (i+1))))
 else
 some (.done (.brk ()))
def dI (a:(List Int)) (b:(List Int)):Option Bool:=
 bif (!decide ((a.length:Int)=(b.length:Int)))then
 some false
 else
 Option.bind (aS (wu a b) FUEL (0)) fun o=>match o with
 | .ret v=>some v
 | .brk _=>
 some true
def qo (a:(List Short)) (b:(List Short)):Int→Option (aM Int (Ex Unit Bool)):=
 fun i=>
 bif (decide (i<(a.length:Int)))then
 (bif gB [((bif (bif (!decide (((at' a i.toNat).source)=((at' b i.toNat).source)))then true else(!decide (((at' a i.toNat).iL)=((at' b i.toNat).iL))))then true else(!decide (((at' a i.toNat).amps)=((at' b i.toNat).amps)))),false)]then dI ((at' a i.toNat).links) ((at' b i.toNat).links)else some default).bind fun r_=>
 dU (((0:Int)≤i∧i<(a.length:Int))∧((0:Int)≤i∧i<(b.length:Int))∧(gB [((!decide (((at' a i.toNat).source)=((at' b i.toNat).source))),false)]=true→(0:Int)≤i∧i<(a.length:Int))∧(gB [((!decide (((at' a i.toNat).source)=((at' b i.toNat).source))),false)]=true→(0:Int)≤i∧i<(b.length:Int))∧(gB [((bif (!decide (((at' a i.toNat).source)=((at' b i.toNat).source)))then true else(!decide (((at' a i.toNat).iL)=((at' b i.toNat).iL)))),false)]=true→(0:Int)≤i∧i<(a.length:Int))∧(gB [((bif (!decide (((at' a i.toNat).source)=((at' b i.toNat).source)))then true else(!decide (((at' a i.toNat).iL)=((at' b i.toNat).iL)))),false)]=true→(0:Int)≤i∧i<(b.length:Int))∧(gB [((bif (bif (!decide (((at' a i.toNat).source)=((at' b i.toNat).source)))then true else(!decide (((at' a i.toNat).iL)=((at' b i.toNat).iL))))then true else(!decide (((at' a i.toNat).amps)=((at' b i.toNat).amps)))),false)]=true→(0:Int)≤i∧i<(a.length:Int))∧(gB [((bif (bif (!decide (((at' a i.toNat).source)=((at' b i.toNat).source)))then true else(!decide (((at' a i.toNat).iL)=((at' b i.toNat).iL))))then true else(!decide (((at' a i.toNat).amps)=((at' b i.toNat).amps)))),false)]=true→(0:Int)≤i∧i<(b.length:Int))) (
 bif (bif (bif (bif (!decide (((at' a i.toNat).source)=((at' b i.toNat).source)))then true else(!decide (((at' a i.toNat).iL)=((at' b i.toNat).iL))))then true else(!decide (((at' a i.toNat).amps)=((at' b i.toNat).amps))))then true else(!r_))then
 some (.done (.ret false))
 else
 some (.next (IntKind.wrap .i64 (i+1))))
 else
 some (.done (.brk ()))
def gJ (a:(List Short)) (b:(List Short)):Option Bool:=
 bif (!decide ((a.length:Int)=(b.length:Int)))then
 some false
 else
 Option.bind (aS (qo a b) FUEL (0)) fun o=>match o with
 | .ret v=>some v
 | .brk _=>
 some true
def uz (racks:(List Int)):((List ay) × Int)→Option (aM ((List ay) × Int) (Ex (List ay) (ah × State))):=
 fun zz=>match zz with
 |(p3,i)=>
 bif (decide (i<(racks.length:Int)))then
 dU (((0:Int)≤i∧i<(racks.length:Int))∧((p3.length+[(⟨(⟨1,(-1)⟩:af),(at' racks i.toNat),1⟩:ay)].length)*32≤140737488355328)∧(p3.length+[(⟨(⟨1,(-1)⟩:af),(at' racks i.toNat),1⟩:ay)].length≤4611686018427387904)) (
 some (.next ((p3++[(⟨(⟨1,(-1)⟩:af),(at' racks i.toNat),1⟩:ay)]),(IntKind.wrap .i64 (i+1)))))
 else
 some (.done (.brk p3))
def nQ (racks:(List Int)):Option (ah × State):=
 Option.bind (aS (uz racks) FUEL (([]:List ay),0)) fun o=>match o with
 | .ret v=>some v
 | .brk p31=>
 dU (((0:Int)≤2)∧((1:Int)*2≤281474976710656)∧((2:Int)≤9223372036854775807)∧((0:Int)≤3)∧((1:Int)*3≤281474976710656)∧((3:Int)≤9223372036854775807)) (
 some ((⟨3,[(⟨0,1,500,0,20⟩:Source),(⟨2,2,300,0,40⟩:Source)],[(⟨0,1,3,400,10,([]:List iQ)⟩:Link),(⟨1,2,3,400,10,([]:List iQ)⟩:Link)],p31⟩:ah),(⟨[true,true],(List.replicate 2 (false:Bool)),(List.replicate 2 (false:Bool)),[true,true],(List.replicate 2 (false:Bool)),(List.replicate 3 (false:Bool)),(List.replicate 3 (false:Bool))⟩:State)))
def nO  :Option Bool:=
 (nQ [100]).bind fun r_=>
 (fq r_.1 r_.2).bind fun r_1=>
 (AR r_.1 r_.2).bind fun r_2=>
 (bif gB [((bif (!decide (r_1.2.2=0))then true else(!decide (r_2.2=0))),false)]then eT r_1.1 else some default).bind fun r_3=>
 bif (bif (bif (bif (!decide (r_1.2.2=0))then true else(!decide (r_2.2=0)))then true else(!decide (r_3=100)))then true else(!r_2.1))then
 some false
 else
 (mW r_1.2.1 [true,true,true]).bind fun r_4=>
 bif (!r_4)then
 some false
 else
 (nQ [300,600]).bind fun r_5=>
 (fq r_5.1 r_5.2).bind fun r_6=>
 (iy r_5.1 r_5.2 r_6.2.1).bind fun r_7=>
 (yL r_5.1 r_5.2).bind fun r_8=>
 (bif gB [((bif (bif (!decide (r_6.2.2=0))then true else(!decide (r_7.2=0)))then true else(!decide (r_8.2=0))),false)]then eT r_6.1 else some default).bind fun r_9=>
 bif (bif (bif (bif (bif (!decide (r_6.2.2=0))then true else(!decide (r_7.2=0)))then true else(!decide (r_8.2=0)))then true else(!decide (r_9=700)))then true else(!decide (r_7.1=700)))then
 bif (bif (bif (bif (bif (bif (!decide (r_6.2.2=0))then true else(!decide (r_7.2=0)))then true else(!decide (r_8.2=0)))then true else(!decide (r_9=700)))then true else(!decide (r_7.1=700)))then true else false)then
 (bif gB [((bif (bif (bif (bif (bif (bif (!decide (r_6.2.2=0))then true else(!decide (r_7.2=0)))then true else(!decide (r_8.2=0)))then true else(!decide (r_9=700)))then true else(!decide (r_7.1=700)))then true else false)then true else false),false)]then fe r_5.1 r_5.2 r_6.1 r_6.2.1 else some default).bind fun r_10=>
 bif (bif (bif (bif (bif (bif (bif (bif (!decide (r_6.2.2=0))then true else(!decide (r_7.2=0)))then true else(!decide (r_8.2=0)))then true else(!decide (r_9=700)))then true else(!decide (r_7.1=700)))then true else false)then true else false)then true else(!decide (r_10=0)))then
 some false
 else
 (kN r_5.1 r_5.2 1).bind fun r_11=>
 (jP r_5.1 r_11.1).bind fun r_12=>
 bif (bif (decide (r_11.2=0))then(decide (r_12.2.2=0))else false)then
 (gJ r_11.1 [(⟨0,30,13334,[0]⟩:Short),(⟨1,50,8000,[1]⟩:Short)]).bind fun r_13=>
 bif (bif (bif (decide (r_11.2=0))then(decide (r_12.2.2=0))else false)then r_13 else false)then
 (dI r_12.1 [13334,8000]).bind fun r_14=>
 some r_14
 else
 some false
 else
 bif (bif (bif (decide (r_11.2=0))then(decide (r_12.2.2=0))else false)then false else false)then
 (dI r_12.1 [13334,8000]).bind fun r_15=>
 some r_15
 else
 some false
 else
 (nU r_8.1 [(⟨2,1⟩:Part),(⟨3,0⟩:Part)]).bind fun r_16=>
 (bif gB [((bif (bif (bif (bif (bif (bif (!decide (r_6.2.2=0))then true else(!decide (r_7.2=0)))then true else(!decide (r_8.2=0)))then true else(!decide (r_9=700)))then true else(!decide (r_7.1=700)))then true else false)then true else(!r_16)),false)]then fe r_5.1 r_5.2 r_6.1 r_6.2.1 else some default).bind fun r_17=>
 bif (bif (bif (bif (bif (bif (bif (bif (!decide (r_6.2.2=0))then true else(!decide (r_7.2=0)))then true else(!decide (r_8.2=0)))then true else(!decide (r_9=700)))then true else(!decide (r_7.1=700)))then true else false)then true else(!r_16))then true else(!decide (r_17=0)))then
 some false
 else
 (kN r_5.1 r_5.2 1).bind fun r_18=>
 (jP r_5.1 r_18.1).bind fun r_19=>
 bif (bif (decide (r_18.2=0))then(decide (r_19.2.2=0))else false)then
 (gJ r_18.1 [(⟨0,30,13334,[0]⟩:Short),(⟨1,50,8000,[1]⟩:Short)]).bind fun r_20=>
 bif (bif (bif (decide (r_18.2=0))then(decide (r_19.2.2=0))else false)then r_20 else false)then
 (dI r_19.1 [13334,8000]).bind fun r_21=>
 some r_21
 else
 some false
 else
 bif (bif (bif (decide (r_18.2=0))then(decide (r_19.2.2=0))else false)then false else false)then
 (dI r_19.1 [13334,8000]).bind fun r_22=>
 some r_22
 else
 some false
 else
 (mW r_6.2.1 [true,false,false]).bind fun r_23=>
 bif (bif (bif (bif (bif (bif (!decide (r_6.2.2=0))then true else(!decide (r_7.2=0)))then true else(!decide (r_8.2=0)))then true else(!decide (r_9=700)))then true else(!decide (r_7.1=700)))then true else(!r_23))then
 (bif gB [((bif (bif (bif (bif (bif (bif (!decide (r_6.2.2=0))then true else(!decide (r_7.2=0)))then true else(!decide (r_8.2=0)))then true else(!decide (r_9=700)))then true else(!decide (r_7.1=700)))then true else(!r_23))then true else false),false)]then fe r_5.1 r_5.2 r_6.1 r_6.2.1 else some default).bind fun r_24=>
 bif (bif (bif (bif (bif (bif (bif (bif (!decide (r_6.2.2=0))then true else(!decide (r_7.2=0)))then true else(!decide (r_8.2=0)))then true else(!decide (r_9=700)))then true else(!decide (r_7.1=700)))then true else(!r_23))then true else false)then true else(!decide (r_24=0)))then
 some false
 else
 (kN r_5.1 r_5.2 1).bind fun r_25=>
 (jP r_5.1 r_25.1).bind fun r_26=>
 bif (bif (decide (r_25.2=0))then(decide (r_26.2.2=0))else false)then
 (gJ r_25.1 [(⟨0,30,13334,[0]⟩:Short),(⟨1,50,8000,[1]⟩:Short)]).bind fun r_27=>
 bif (bif (bif (decide (r_25.2=0))then(decide (r_26.2.2=0))else false)then r_27 else false)then
 (dI r_26.1 [13334,8000]).bind fun r_28=>
 some r_28
 else
 some false
 else
 bif (bif (bif (decide (r_25.2=0))then(decide (r_26.2.2=0))else false)then false else false)then
 (dI r_26.1 [13334,8000]).bind fun r_29=>
 some r_29
 else
 some false
 else
 (nU r_8.1 [(⟨2,1⟩:Part),(⟨3,0⟩:Part)]).bind fun r_30=>
 (bif gB [((bif (bif (bif (bif (bif (bif (!decide (r_6.2.2=0))then true else(!decide (r_7.2=0)))then true else(!decide (r_8.2=0)))then true else(!decide (r_9=700)))then true else(!decide (r_7.1=700)))then true else(!r_23))then true else(!r_30)),false)]then fe r_5.1 r_5.2 r_6.1 r_6.2.1 else some default).bind fun r_31=>
 bif (bif (bif (bif (bif (bif (bif (bif (!decide (r_6.2.2=0))then true else(!decide (r_7.2=0)))then true else(!decide (r_8.2=0)))then true else(!decide (r_9=700)))then true else(!decide (r_7.1=700)))then true else(!r_23))then true else(!r_30))then true else(!decide (r_31=0)))then
 some false
 else
 (kN r_5.1 r_5.2 1).bind fun r_32=>
 (jP r_5.1 r_32.1).bind fun r_33=>
 bif (bif (decide (r_32.2=0))then(decide (r_33.2.2=0))else false)then
 (gJ r_32.1 [(⟨0,30,13334,[0]⟩:Short),(⟨1,50,8000,[1]⟩:Short)]).bind fun r_34=>
 bif (bif (bif (decide (r_32.2=0))then(decide (r_33.2.2=0))else false)then r_34 else false)then
 (dI r_33.1 [13334,8000]).bind fun r_35=>
 some r_35
 else
 some false
 else
 bif (bif (bif (decide (r_32.2=0))then(decide (r_33.2.2=0))else false)then false else false)then
 (dI r_33.1 [13334,8000]).bind fun r_36=>
 some r_36
 else
 some false
def gH (p:ah) (s_:State) (cuts:(List (List Bool))) (i:Int):((List Bool) × Int)→Option (aM ((List Bool) × Int) (Ex (List Bool) (aM Int (Ex Unit Bool)))):=
 fun zz=>match zz with
 |(other,b)=>
 dU (gB [((decide (b<p.buses)),true)]=true→(0:Int)≤i∧i<(cuts.length:Int)) (
 bif (bif (decide (b<p.buses))then(decide (b<((at' cuts i.toNat).length:Int)))else false)then
 dU (((0:Int)≤i∧i<(cuts.length:Int))∧((0:Int)≤b∧b<((at' cuts i.toNat).length:Int))∧(gB [((at' (at' cuts i.toNat) b.toNat),true)]=true→(0:Int)≤b∧b<(s_.badBus.length:Int))∧((0:Int)≤b∧b<(other.length:Int))) (
 some (.next ((other.set b.toNat (bif (at' (at' cuts i.toNat) b.toNat)then(!(at' s_.badBus b.toNat))else false)),(IntKind.wrap .i64 (b+1)))))
 else
 some (.done (.brk other)))
def gy (p:ah) (r_2:(ai × (List Bool) × Int)) (other1:(List Bool)) (r_4:(Int × Int)):Int→Option (aM Int (Ex Unit (aM Int (Ex Unit Bool)))):=
 fun b1=>
 bif (decide (b1<p.buses))then
 (eT r_2.1).bind fun r_6=>
 dU ((gB [((decide (r_4.1=r_6)),true)]=true→(0:Int)≤b1∧b1<(r_2.2.1.length:Int))∧(gB [((bif (decide (r_4.1=r_6))then(at' r_2.2.1 b1.toNat)else false),true)]=true→(0:Int)≤b1∧b1<(other1.length:Int))) (
 bif (bif (bif (decide (r_4.1=r_6))then(at' r_2.2.1 b1.toNat)else false)then(!(at' other1 b1.toNat))else false)then
 some (.done (.ret (.done (.ret false))))
 else
 some (.next (IntKind.wrap .i64 (b1+1))))
 else
 some (.done (.brk ()))
def gq (p:ah) (s_:State) (cuts:(List (List Bool))) (r_2:(ai × (List Bool) × Int)):Int→Option (aM Int (Ex Unit Bool)):=
 fun i=>
 bif (bif (decide (i<(cuts.length:Int)))then(decide (i<20))else false)then
 dU (((0:Int)≤p.buses)∧((1:Int)*p.buses≤281474976710656)∧((p.buses:Int)≤9223372036854775807)) (
 Option.bind (aS (gH p s_ cuts i) FUEL ((List.replicate p.buses.toNat (false:Bool)),0)) fun o=>match o with
 | .ret v=>some v
 | .brk other1=>
 (iy p s_ other1).bind fun r_4=>
 (bif gB [((!decide (r_4.2=0)),false)]then eT r_2.1 else some default).bind fun r_5=>
 bif (bif (!decide (r_4.2=0))then true else(decide (r_4.1<r_5)))then
 some (.done (.ret false))
 else
 Option.bind (aS (gy p r_2 other1 r_4) FUEL (0)) fun o=>match o with
 | .ret v=>some v
 | .brk _=>
 some (.next (IntKind.wrap .i64 (i+1))))
 else
 some (.done (.brk ()))
def iW (p:ah) (s_:State) (cuts:(List (List Bool))):Option Bool:=
 (bif gB [((bif (bif (decide (60<(p.sources.length:Int)))then true else(decide (60<(p.links.length:Int))))then true else(decide (60<(p.racks.length:Int)))),false)]then dm p s_ else some default).bind fun r_=>
 bif (bif (bif (bif (decide (60<(p.sources.length:Int)))then true else(decide (60<(p.links.length:Int))))then true else(decide (60<(p.racks.length:Int))))then true else(!decide (r_=0)))then
 (nO).bind fun r_1=>
 some r_1
 else
 (fq p s_).bind fun r_2=>
 (bif gB [((bif (!decide (r_2.2.2=0))then true else(!decide ((r_2.2.1.length:Int)=p.buses))),false)]then fe p s_ r_2.1 r_2.2.1 else some default).bind fun r_3=>
 bif (bif (bif (!decide (r_2.2.2=0))then true else(!decide ((r_2.2.1.length:Int)=p.buses)))then true else(!decide (r_3=0)))then
 some false
 else
 Option.bind (aS (gq p s_ cuts r_2) FUEL (0)) fun o=>match o with
 | .ret v=>some v
 | .brk _=>
 (nO).bind fun r_7=>
 some r_7
end Sg
