import Derived.Test.YtpndenfhglaikaaLc
set_option linter.all false
namespace Sg
open Go
structure State where
 closed:(List Bool)
 locked:(List Bool)
 badLink:(List Bool)
 on_:(List Bool)
 badSource:(List Bool)
 earthed:(List Bool)
 badBus:(List Bool)
instance:Inhabited State:=⟨⟨default,default,default,default,default,default,default⟩⟩
def State.cell (x:State):Nat→DV
 |0=>(aG none 1 ah x.closed)
 |1=>(aG none 1 ah x.locked)
 |2=>(aG none 1 ah x.badLink)
 |3=>(aG none 1 ah x.on_)
 |4=>(aG none 1 ah x.badSource)
 |5=>(aG none 1 ah x.earthed)
 |6=>(aG none 1 ah x.badBus)
 |_=> .nilp
structure Source where
 bus:Int
 kind:Int
 power:Int
 sync:Int
 iR:Int
instance:Inhabited Source:=⟨⟨default,default,default,default,default⟩⟩
def Source.cell (x:Source):Nat→DV
 |0=>(.int .i64 x.bus)
 |1=>(.int .i64 x.kind)
 |2=>(.int .i64 x.power)
 |3=>(.int .i64 x.sync)
 |4=>(.int .i64 x.iR)
 |_=> .nilp
structure je where
 amps:Int
 millis:Int
instance:Inhabited je:=⟨⟨default,default⟩⟩
def je.cell (x:je):Nat→DV
 |0=>(.int .i64 x.amps)
 |1=>(.int .i64 x.millis)
 |_=> .nilp
structure Link where
 a:Int
 b:Int
 kind:Int
 most:Int
 iR:Int
 trip:(List je)
instance:Inhabited Link:=⟨⟨default,default,default,default,default,default⟩⟩
def Link.cell (x:Link):Nat→DV
 |0=>(.int .i64 x.a)
 |1=>(.int .i64 x.b)
 |2=>(.int .i64 x.kind)
 |3=>(.int .i64 x.most)
 |4=>(.int .i64 x.iR)
 |5=>(aG none 2 je.cell x.trip)
 |_=> .nilp
structure af where
 e0:Int
 e1:Int
instance:Inhabited af:=⟨⟨default,default⟩⟩
def af.cell (x:af):Nat→DV
 |0=>(.int .i64 x.e0)
 |1=>(.int .i64 x.e1)
 |_=> .nilp
structure ax where
 feeds:af
 power:Int
 paths:Int
instance:Inhabited ax:=⟨⟨default,default,default⟩⟩
def ax.cell (x:ax):Nat→DV
 |0=>(.int .i64 x.feeds.e0)
 |1=>(.int .i64 x.feeds.e1)
 |2=>(.int .i64 x.power)
 |3=>(.int .i64 x.paths)
 |_=> .nilp
structure ai where
 buses:Int
 sources:(List Source)
 links:(List Link)
 racks:(List ax)
instance:Inhabited ai:=⟨⟨default,default,default,default⟩⟩
def ai.cell (x:ai):Nat→DV
 |0=>(.int .i64 x.buses)
 |1=>(aG none 5 Source.cell x.sources)
 |2=>(aG none 6 Link.cell x.links)
 |3=>(aG none 4 ax.cell x.racks)
 |_=> .nilp
structure dV where
 l:(List Bool)
 n:Int
instance:Inhabited dV:=⟨⟨default,default⟩⟩
def dV.cell (x:dV):Nat→DV
 |0=>(aG none 1 ah x.l)
 |1=>(.int .i64 x.n)
 |_=> .nilp
structure Way where
 there:Bool
 iR:Int
 links:(List Int)
instance:Inhabited Way:=⟨⟨default,default,default⟩⟩
def Way.cell (x:Way):Nat→DV
 |0=>(.bool x.there)
 |1=>(.int .i64 x.iR)
 |2=>(aG none 1 (au .i64) x.links)
 |_=> .nilp
structure Short where
 source:Int
 iR:Int
 amps:Int
 links:(List Int)
instance:Inhabited Short:=⟨⟨default,default,default,default⟩⟩
def Short.cell (x:Short):Nat→DV
 |0=>(.int .i64 x.source)
 |1=>(.int .i64 x.iR)
 |2=>(.int .i64 x.amps)
 |3=>(aG none 1 (au .i64) x.links)
 |_=> .nilp
structure aV where
 to_:Int
 left:Int
instance:Inhabited aV:=⟨⟨default,default⟩⟩
def aV.cell (x:aV):Nat→DV
 |0=>(.int .i64 x.to_)
 |1=>(.int .i64 x.left)
 |_=> .nilp
structure Network where
 arcs:(List aV)
 from_:(List (List Int))
instance:Inhabited Network:=⟨⟨default,default⟩⟩
def Network.cell (x:Network):Nat→DV
 |0=>(aG none 2 aV.cell x.arcs)
 |1=>(aG none 1 (ML 1 (au .i64)) x.from_)
 |_=> .nilp
structure aM where
 l:(List af)
instance:Inhabited aM:=⟨⟨default⟩⟩
def aM.cell (x:aM):Nat→DV
 |0=>(aG none 2 af.cell x.l)
 |_=> .nilp
structure aj where
 sources:(List Int)
 links:(List Int)
 racks:(List af)
instance:Inhabited aj:=⟨⟨default,default,default⟩⟩
def aj.cell (x:aj):Nat→DV
 |0=>(aG none 1 (au .i64) x.sources)
 |1=>(aG none 1 (au .i64) x.links)
 |2=>(aG none 2 af.cell x.racks)
 |_=> .nilp
structure Part where
 kind:Int
 index:Int
instance:Inhabited Part:=⟨⟨default,default⟩⟩
def Part.cell (x:Part):Nat→DV
 |0=>(.int .i64 x.kind)
 |1=>(.int .i64 x.index)
 |_=> .nilp
structure Cc where
 head:(List (Int × Int))
instance:Inhabited Cc:=⟨⟨default⟩⟩
def Cc.cell (x:Cc):Nat→DV
 |0=> .nilp
 |_=> .nilp
structure KI where
 buses:(List Int)
 sources:(List Int)
instance:Inhabited KI:=⟨⟨default,default⟩⟩
def KI.cell (x:KI):Nat→DV
 |0=>(aG none 1 (au .i64) x.buses)
 |1=>(aG none 1 (au .i64) x.sources)
 |_=> .nilp
def KI.ev (x:KI):Nat→EV
 |0=> .row 3 1 x.buses.length (ay (au .i64) x.buses)
 |1=> .row 3 1 x.sources.length (ay (au .i64) x.sources)
 |_=> .d .nilp
instance:DecidableEq af:=fun a b=>if h:a.e0=b.e0∧a.e1=b.e1 then .isTrue (match a,b,h with|⟨_,_⟩,⟨_,_⟩,⟨h0,h1⟩=>by cases h0;cases h1;rfl)else .isFalse fun q=>h (by cases q;exact⟨rfl,rfl⟩)
def oZ (x:List Int):Nat→EV
 |0=> .row 3 1 x.length (ay (au .i64) x)
 |_=> .d .nilp
def dM (l:(List Bool)):Option (List Bool):=
 dS ((l.length*1≤140737488355328)∧(l.length≤4611686018427387904)) (
 some l)
def lm (x:State):Option State:=
 (dM x.closed).bind fun r_=>
 (dM x.locked).bind fun r_1=>
 (dM x.badLink).bind fun r_2=>
 (dM x.on_).bind fun r_3=>
 (dM x.badSource).bind fun r_4=>
 (dM x.earthed).bind fun r_5=>
 (dM x.badBus).bind fun r_6=>
 some (⟨r_,r_1,r_2,r_3,r_4,r_5,r_6⟩:State)
def tY (a:(List Bool)) (b:(List Bool)):Int→Option (aU Int (Ex Unit Bool)):=
 fun i=>
 bif (decide (i<(a.length:Int)))then
 dS (((0:Int)≤i∧i<(a.length:Int))∧((0:Int)≤i∧i<(b.length:Int))) (
 bif (!((at' a i.toNat)==(at' b i.toNat)))then
 some (.done (.ret false))
 else
 some (.next (IntKind.wrap .i64 (i+1))))
 else
 some (.done (.brk ()))
def nC (a:(List Bool)) (b:(List Bool)):Option Bool:=
 bif (!decide ((a.length:Int)=(b.length:Int)))then
 some false
 else
 Option.bind (aZ (tY a b) FUEL (0)) fun o=>match o with
 | .ret v=>some v
 | .brk _=>
 some true
def aS (n:Int) (first:Int) (last:Int):Option Bool:=
 some (bif (decide (first≤n))then(decide (n≤last))else false)
def pE (p:ai):Option (Int × (List Source) × (List Link) × (List ax)):=
 some (p.buses,p.sources,p.links,p.racks)
def uN (p:ai):Option (Int × (List Source) × (List Link) × (List ax)):=
 some (p.buses,p.sources,p.links,p.racks)
def uH (p:ai):Option (Int × (List Source) × (List Link) × (List ax)):=
 some (p.buses,p.sources,p.links,p.racks)
def kF (x:Source) (x1:Int) (x11:(List Source)) (x12:(List Link)) (x13:(List ax)):Option Bool:=
 (aS x.bus 0 (IntKind.wrap .i64 (x1 - 1))).bind fun r_=>
 (bif gB [(r_,true)]then aS x.kind 1 3 else some default).bind fun r_1=>
 (bif gB [((bif r_ then r_1 else false),true)]then aS x.power 1 100000 else some default).bind fun r_2=>
 (bif gB [((bif (bif r_ then r_1 else false)then r_2 else false),true)]then aS x.sync 0 8 else some default).bind fun r_3=>
 (bif gB [((bif (bif (bif r_ then r_1 else false)then r_2 else false)then r_3 else false),true)]then aS x.iR 10 100000 else some default).bind fun r_4=>
 some (bif (bif (bif (bif r_ then r_1 else false)then r_2 else false)then r_3 else false)then r_4 else false)
def qy (x:Source) (x1:Int) (x11:(List Source)) (x12:(List Link)) (x13:(List ax)):Option Bool:=
 (kF x x1 x11 x12 x13).bind fun r_=>
 some (!r_)
def jy (s_:(List Source)) (f_:Int) (f_1:(List Source)) (f_2:(List Link)) (f_3:(List ax)):Int→Option (aU Int (Ex Unit Int)):=
 fun t8=>
 bif (decide (t8<(s_.length:Int)))then
 (qy (at' s_ t8.toNat) f_ f_1 f_2 f_3).bind fun r_=>
 dS ((0:Int)≤t8∧t8<(s_.length:Int)) (
 bif r_ then
 some (.done (.ret t8))
 else
 some (.next (IntKind.wrap .i64 (t8+1))))
 else
 some (.done (.brk ()))
def kS (s_:(List Source)) (f_:Int) (f_1:(List Source)) (f_2:(List Link)) (f_3:(List ax)):Option Int:=
 Option.bind (aZ (jy s_ f_ f_1 f_2 f_3) FUEL (0)) fun o=>match o with
 | .ret v=>some v
 | .brk _=>
 some (-1)
def gL (s_:(List Source)) (f_:Int) (f_1:(List Source)) (f_2:(List Link)) (f_3:(List ax)):Option Bool:=
 (kS s_ f_ f_1 f_2 f_3).bind fun r_=>
 some (decide (0≤r_))
def pW (l:(List Source)) (most:Int) (right:Int) (right1:(List Source)) (right2:(List Link)) (right3:(List ax)):Option Bool:=
 (bif gB [((decide ((l.length:Int)≤most)),true)]then gL l right right1 right2 right3 else some default).bind fun r_=>
 some (bif (decide ((l.length:Int)≤most))then(!r_)else false)
def jS (x:Link):Int→Option (aU Int (Ex Unit Bool)):=
 fun t50=>
 bif (decide (t50<(x.trip.length:Int)))then
 dS ((0:Int)≤t50∧t50<(x.trip.length:Int)) (
 (aS ((at' x.trip t50.toNat).amps) 1 1000000).bind fun r_5=>
 (bif gB [((!r_5),false)]then aS ((at' x.trip t50.toNat).millis) 1 100000 else some default).bind fun r_6=>
 dS ((gB [((decide (0<t50)),true),((bif (!r_5)then true else(!r_6)),false)]=true→(0:Int)≤(IntKind.wrap .i64 (t50 - 1))∧(IntKind.wrap .i64 (t50 - 1))<(x.trip.length:Int))∧(gB [((decide (((at' x.trip t50.toNat).amps)≤((at' x.trip ((IntKind.wrap .i64 (t50 - 1)).toNat)).amps))),false),((decide (0<t50)),true),((bif (!r_5)then true else(!r_6)),false)]=true→(0:Int)≤(IntKind.wrap .i64 (t50 - 1))∧(IntKind.wrap .i64 (t50 - 1))<(x.trip.length:Int))) (
 bif (bif (bif (!r_5)then true else(!r_6))then true else(bif (decide (0<t50))then(bif (decide (((at' x.trip t50.toNat).amps)≤((at' x.trip ((IntKind.wrap .i64 (t50 - 1)).toNat)).amps)))then true else(decide (((at' x.trip ((IntKind.wrap .i64 (t50 - 1)).toNat)).millis)≤((at' x.trip t50.toNat).millis))))else false))then
 some (.done (.ret false))
 else
 some (.next (IntKind.wrap .i64 (t50+1)))))
 else
 some (.done (.brk ()))
def mJ (x:Link) (x1:Int) (x11:(List Source)) (x12:(List Link)) (x13:(List ax)):Option Bool:=
 (aS x.a 0 (IntKind.wrap .i64 (x1 - 1))).bind fun r_=>
 (bif gB [((!r_),false)]then aS x.b 0 (IntKind.wrap .i64 (x1 - 1))else some default).bind fun r_1=>
 (bif gB [((bif (bif (!r_)then true else(!r_1))then true else(decide (x.a=x.b))),false)]then aS x.kind 1 3 else some default).bind fun r_2=>
 (bif gB [((bif (bif (bif (!r_)then true else(!r_1))then true else(decide (x.a=x.b)))then true else(!r_2)),false)]then aS x.most 1 100000 else some default).bind fun r_3=>
 (bif gB [((bif (bif (bif (bif (!r_)then true else(!r_1))then true else(decide (x.a=x.b)))then true else(!r_2))then true else(!r_3)),false)]then aS x.iR 10 100000 else some default).bind fun r_4=>
 bif (bif (bif (bif (bif (bif (!r_)then true else(!r_1))then true else(decide (x.a=x.b)))then true else(!r_2))then true else(!r_3))then true else(!r_4))then
 some false
 else
 Option.bind (aZ (jS x) FUEL (0)) fun o=>match o with
 | .ret v=>some v
 | .brk _=>
 some (bif (decide ((x.trip.length:Int)≤6))then(bif (decide ((x.trip.length:Int)=0))then true else(decide (x.kind=3)))else false)
def mD (x:Link) (x1:Int) (x11:(List Source)) (x12:(List Link)) (x13:(List ax)):Option Bool:=
 (mJ x x1 x11 x12 x13).bind fun r_=>
 some (!r_)
def gZ (s_:(List Link)) (f_:Int) (f_1:(List Source)) (f_2:(List Link)) (f_3:(List ax)):Int→Option (aU Int (Ex Unit Int)):=
 fun t8=>
 bif (decide (t8<(s_.length:Int)))then
 (mD (at' s_ t8.toNat) f_ f_1 f_2 f_3).bind fun r_=>
 dS ((0:Int)≤t8∧t8<(s_.length:Int)) (
 bif r_ then
 some (.done (.ret t8))
 else
 some (.next (IntKind.wrap .i64 (t8+1))))
 else
 some (.done (.brk ()))
def jA (s_:(List Link)) (f_:Int) (f_1:(List Source)) (f_2:(List Link)) (f_3:(List ax)):Option Int:=
 Option.bind (aZ (gZ s_ f_ f_1 f_2 f_3) FUEL (0)) fun o=>match o with
 | .ret v=>some v
 | .brk _=>
 some (-1)
def fE (s_:(List Link)) (f_:Int) (f_1:(List Source)) (f_2:(List Link)) (f_3:(List ax)):Option Bool:=
 (jA s_ f_ f_1 f_2 f_3).bind fun r_=>
 some (decide (0≤r_))
def ni (l:(List Link)) (most:Int) (right:Int) (right1:(List Source)) (right2:(List Link)) (right3:(List ax)):Option Bool:=
 (bif gB [((decide ((l.length:Int)≤most)),true)]then fE l right right1 right2 right3 else some default).bind fun r_=>
 some (bif (decide ((l.length:Int)≤most))then(!r_)else false)
def oq (x:ax):Option Int:=
 bif (decide (x.feeds.e1=(-1)))then
 some 1
 else
 some 2
def mV (x:ax) (x1:Int) (x11:(List Source)) (x12:(List Link)) (x13:(List ax)):Option Bool:=
 (aS x.feeds.e0 0 (IntKind.wrap .i64 (x1 - 1))).bind fun r_=>
 (bif gB [(r_,true)]then aS x.feeds.e1 (-1) (IntKind.wrap .i64 (x1 - 1))else some default).bind fun r_1=>
 (bif gB [((bif (bif r_ then r_1 else false)then(!decide (x.feeds.e0=x.feeds.e1))else false),true)]then aS x.power 1 100000 else some default).bind fun r_2=>
 (bif gB [((bif (bif (bif r_ then r_1 else false)then(!decide (x.feeds.e0=x.feeds.e1))else false)then r_2 else false),true)]then oq x else some default).bind fun r_3=>
 (bif gB [((bif (bif (bif r_ then r_1 else false)then(!decide (x.feeds.e0=x.feeds.e1))else false)then r_2 else false),true)]then aS x.paths 0 r_3 else some default).bind fun r_4=>
 some (bif (bif (bif (bif r_ then r_1 else false)then(!decide (x.feeds.e0=x.feeds.e1))else false)then r_2 else false)then r_4 else false)
def lV (x:ax) (x1:Int) (x11:(List Source)) (x12:(List Link)) (x13:(List ax)):Option Bool:=
 (mV x x1 x11 x12 x13).bind fun r_=>
 some (!r_)
def ic (s_:(List ax)) (f_:Int) (f_1:(List Source)) (f_2:(List Link)) (f_3:(List ax)):Int→Option (aU Int (Ex Unit Int)):=
 fun t8=>
 bif (decide (t8<(s_.length:Int)))then
 (lV (⟨((at' s_ t8.toNat).feeds),(at' s_ t8.toNat).power,(at' s_ t8.toNat).paths⟩:ax) f_ f_1 f_2 f_3).bind fun r_=>
 dS ((0:Int)≤t8∧t8<(s_.length:Int)) (
 bif r_ then
 some (.done (.ret t8))
 else
 some (.next (IntKind.wrap .i64 (t8+1))))
 else
 some (.done (.brk ()))
def jw (s_:(List ax)) (f_:Int) (f_1:(List Source)) (f_2:(List Link)) (f_3:(List ax)):Option Int:=
 Option.bind (aZ (ic s_ f_ f_1 f_2 f_3) FUEL (0)) fun o=>match o with
 | .ret v=>some v
 | .brk _=>
 some (-1)
def fD (s_:(List ax)) (f_:Int) (f_1:(List Source)) (f_2:(List Link)) (f_3:(List ax)):Option Bool:=
 (jw s_ f_ f_1 f_2 f_3).bind fun r_=>
 some (decide (0≤r_))
def mQ (l:(List ax)) (most:Int) (right:Int) (right1:(List Source)) (right2:(List Link)) (right3:(List ax)):Option Bool:=
 (bif gB [((decide ((l.length:Int)≤most)),true)]then fD l right right1 right2 right3 else some default).bind fun r_=>
 some (bif (decide ((l.length:Int)≤most))then(!r_)else false)
def jU (p:ai):Option Int:=
 (aS p.buses 1 24).bind fun r_=>
 bif (!r_)then
 some 10
 else
 (pE p).bind fun r_1=>
 (pW p.sources 8 r_1.1 r_1.2.1 r_1.2.2.1 r_1.2.2.2).bind fun r_2=>
 bif (!r_2)then
 some 11
 else
 (uN p).bind fun r_3=>
 (ni p.links 40 r_3.1 r_3.2.1 r_3.2.2.1 r_3.2.2.2).bind fun r_4=>
 bif (!r_4)then
 some 12
 else
 (uH p).bind fun r_5=>
 (mQ p.racks 24 r_5.1 r_5.2.1 r_5.2.2.1 r_5.2.2.2).bind fun r_6=>
 bif (!r_6)then
 some 13
 else
 some 0
def gJ (p:ai) (s_:State):Int→Option (aU Int (Ex Unit Int)):=
 fun t55=>
 bif (decide (t55<([(⟨s_.closed,(p.links.length:Int)⟩:dV),(⟨s_.locked,(p.links.length:Int)⟩:dV),(⟨s_.badLink,(p.links.length:Int)⟩:dV),(⟨s_.on_,(p.sources.length:Int)⟩:dV),(⟨s_.badSource,(p.sources.length:Int)⟩:dV),(⟨s_.earthed,p.buses⟩:dV),(⟨s_.badBus,p.buses⟩:dV)].length:Int)))then
 dS ((0:Int)≤t55∧t55<([(⟨s_.closed,(p.links.length:Int)⟩:dV),(⟨s_.locked,(p.links.length:Int)⟩:dV),(⟨s_.badLink,(p.links.length:Int)⟩:dV),(⟨s_.on_,(p.sources.length:Int)⟩:dV),(⟨s_.badSource,(p.sources.length:Int)⟩:dV),(⟨s_.earthed,p.buses⟩:dV),(⟨s_.badBus,p.buses⟩:dV)].length:Int)) (
 bif (!decide ((((at' [(⟨s_.closed,(p.links.length:Int)⟩:dV),(⟨s_.locked,(p.links.length:Int)⟩:dV),(⟨s_.badLink,(p.links.length:Int)⟩:dV),(⟨s_.on_,(p.sources.length:Int)⟩:dV),(⟨s_.badSource,(p.sources.length:Int)⟩:dV),(⟨s_.earthed,p.buses⟩:dV),(⟨s_.badBus,p.buses⟩:dV)] t55.toNat).l).length:Int)=((at' [(⟨s_.closed,(p.links.length:Int)⟩:dV),(⟨s_.locked,(p.links.length:Int)⟩:dV),(⟨s_.badLink,(p.links.length:Int)⟩:dV),(⟨s_.on_,(p.sources.length:Int)⟩:dV),(⟨s_.badSource,(p.sources.length:Int)⟩:dV),(⟨s_.earthed,p.buses⟩:dV),(⟨s_.badBus,p.buses⟩:dV)] t55.toNat).n)))then
 some (.done (.ret 9))
 else
 some (.next (IntKind.wrap .i64 (t55+1))))
 else
 some (.done (.brk ()))
def gM (p:ai) (s_:State):Int→Option (aU Int (Ex Unit Int)):=
 fun t69=>
 bif (decide (t69<(p.links.length:Int)))then
 dS ((0:Int)≤t69∧t69<(p.links.length:Int)) (
 dS ((gB [((decide (((at' p.links t69.toNat).kind)=1)),true)]=true→(0:Int)≤t69∧t69<(s_.closed.length:Int))∧(gB [((!(at' s_.closed t69.toNat)),false),((decide (((at' p.links t69.toNat).kind)=1)),true)]=true→(0:Int)≤t69∧t69<(s_.locked.length:Int))) (
 bif (bif (decide (((at' p.links t69.toNat).kind)=1))then(bif (!(at' s_.closed t69.toNat))then true else(at' s_.locked t69.toNat))else false)then
 some (.done (.ret 9))
 else
 some (.next (IntKind.wrap .i64 (t69+1)))))
 else
 some (.done (.brk ()))
def dD (p:ai) (s_:State):Option Int:=
 (jU p).bind fun r_=>
 bif (!decide (r_=0))then
 some r_
 else
 Option.bind (aZ (gJ p s_) FUEL (0)) fun o=>match o with
 | .ret v=>some v
 | .brk _=>
 Option.bind (aZ (gM p s_) FUEL (0)) fun o=>match o with
 | .ret v=>some v
 | .brk _=>
 some 0
def iW (p:ai) (s_:State) (k:Int):Option Bool:=
 dS (((0:Int)≤k∧k<(s_.on_.length:Int))∧(gB [((at' s_.on_ k.toNat),true)]=true→(0:Int)≤k∧k<(s_.badSource.length:Int))∧(gB [((bif (at' s_.on_ k.toNat)then(!(at' s_.badSource k.toNat))else false),true)]=true→(0:Int)≤k∧k<(p.sources.length:Int))∧(gB [((bif (at' s_.on_ k.toNat)then(!(at' s_.badSource k.toNat))else false),true)]=true→(0:Int)≤(at' p.sources k.toNat).bus∧(at' p.sources k.toNat).bus<(s_.badBus.length:Int))) (
 some (bif (bif (at' s_.on_ k.toNat)then(!(at' s_.badSource k.toNat))else false)then(!(at' s_.badBus (((at' p.sources k.toNat).bus).toNat)))else false))
def eH (p:ai) (s_:State) (i:Int):Option Bool:=
 dS ((0:Int)≤i∧i<(p.links.length:Int)) (
 dS (((0:Int)≤i∧i<(s_.closed.length:Int))∧(gB [((at' s_.closed i.toNat),true)]=true→(0:Int)≤i∧i<(s_.badLink.length:Int))∧(gB [((bif (at' s_.closed i.toNat)then(!(at' s_.badLink i.toNat))else false),true)]=true→(0:Int)≤(at' p.links i.toNat).a∧(at' p.links i.toNat).a<(s_.badBus.length:Int))∧(gB [((bif (bif (at' s_.closed i.toNat)then(!(at' s_.badLink i.toNat))else false)then(!(at' s_.badBus (((at' p.links i.toNat).a).toNat)))else false),true)]=true→(0:Int)≤(at' p.links i.toNat).b∧(at' p.links i.toNat).b<(s_.badBus.length:Int))) (
 some (bif (bif (bif (at' s_.closed i.toNat)then(!(at' s_.badLink i.toNat))else false)then(!(at' s_.badBus (((at' p.links i.toNat).a).toNat)))else false)then(!(at' s_.badBus (((at' p.links i.toNat).b).toNat)))else false)))
def pV (s_:(List Int)) (s_nn:Bool):Option (List Int):=
 bif (!s_nn)then
 some ([]:List Int)
 else
 dS (((([]:List Int).length+s_.length)*8≤140737488355328)∧(([]:List Int).length+s_.length≤4611686018427387904)) (
 some (([]:List Int)++s_))
def tC (s:(List Int)):Option (List Int):=pV s true
def xX (x:Int):Option Bool:=
 some (!decide (x=x))
def yw (x:Int) (y:Int):Option Int:=
 (xX x).bind fun r_=>
 (xX y).bind fun r_1=>
 bif r_ then
 bif r_1 then
 some 0
 else
 some (-1)
 else
 bif r_1 then
 some 1
 else
 bif (decide (x<y))then
 some (-1)
 else
 bif (decide (y<x))then
 some 1
 else
 some 0
def tV (s1:(List Int)) (s2:(List Int)):Int→Option (aU Int (Ex Unit Int)):=
 fun t11=>
 bif (decide (t11<(s1.length:Int)))then
 dS ((0:Int)≤t11∧t11<(s1.length:Int)) (
 bif (decide ((s2.length:Int)≤t11))then
 some (.done (.ret 1))
 else
 dS ((0:Int)≤t11∧t11<(s2.length:Int)) (
 (yw (at' s1 t11.toNat) (at' s2 t11.toNat)).bind fun r_=>
 bif (!decide (r_=0))then
 some (.done (.ret r_))
 else
 some (.next (IntKind.wrap .i64 (t11+1)))))
 else
 some (.done (.brk ()))
def rf (s1:(List Int)) (s2:(List Int)):Option Int:=
 Option.bind (aZ (tV s1 s2) FUEL (0)) fun o=>match o with
 | .ret v=>some v
 | .brk _=>
 bif (decide ((s1.length:Int)<(s2.length:Int)))then
 some (-1)
 else
 some 0
def IQ (vals:(List Int)):Int→Option (aU Int (Ex Unit Int)):=
 fun t8=>
 bif (decide (t8<(vals.length:Int)))then
 dS ((0:Int)≤t8∧t8<(vals.length:Int)) (
 bif (!decide ((at' vals t8.toNat)=0))then
 some (.done (.ret (at' vals t8.toNat)))
 else
 some (.next (IntKind.wrap .i64 (t8+1))))
 else
 some (.done (.brk ()))
def Kj (vals:(List Int)):Option Int:=
 Option.bind (aZ (IQ vals) FUEL (0)) fun o=>match o with
 | .ret v=>some v
 | .brk _=>
 some 0
def yx (a:Way) (b:Way):Option Bool:=
 bif (!b.there)then
 some true
 else
 (rf a.links b.links).bind fun r_=>
 (Kj [(IntKind.wrap .i64 (a.iR - b.iR)),(IntKind.wrap .i64 ((a.links.length:Int) - (b.links.length:Int))),r_]).bind fun r_1=>
 some (decide (r_1<0))
def BZ (p:ai) (t28:Int):((List Way) × Bool × Int)→Option (aU ((List Way) × Bool × Int) (Ex ((List Way) × Bool) (aU ((List Way) × Bool × Int) (Ex ((List Way) × Bool) (aU ((List Way) × Bool) (Ex (List Way) (List Way))))))):=
 fun zz=>match zz with
 |(out4,changed3,t49)=>
 bif (decide (t49<2))then
 dS ((0:Int)≤t49∧t49<((2:Nat):Int)) (
 dS ((0:Int)≤(at' [(⟨(at' p.links t28.toNat).a,(at' p.links t28.toNat).b⟩:af),(⟨(at' p.links t28.toNat).b,(at' p.links t28.toNat).a⟩:af)] t49.toNat).e0∧(at' [(⟨(at' p.links t28.toNat).a,(at' p.links t28.toNat).b⟩:af),(⟨(at' p.links t28.toNat).b,(at' p.links t28.toNat).a⟩:af)] t49.toNat).e0<(out4.length:Int)) (
 bif (!((at' out4 (((at' [(⟨(at' p.links t28.toNat).a,(at' p.links t28.toNat).b⟩:af),(⟨(at' p.links t28.toNat).b,(at' p.links t28.toNat).a⟩:af)] t49.toNat).e0).toNat)).there))then
 some (.next (out4,changed3,(IntKind.wrap .i64 (t49+1))))
 else
 (tC ((at' out4 (((at' [(⟨(at' p.links t28.toNat).a,(at' p.links t28.toNat).b⟩:af),(⟨(at' p.links t28.toNat).b,(at' p.links t28.toNat).a⟩:af)] t49.toNat).e0).toNat)).links)).bind fun r_1=>
 dS (((r_1.length+[t28].length)*8≤140737488355328)∧(r_1.length+[t28].length≤4611686018427387904)) (
 (yx (⟨true,(IntKind.wrap .i64 (((at' out4 (((at' [(⟨(at' p.links t28.toNat).a,(at' p.links t28.toNat).b⟩:af),(⟨(at' p.links t28.toNat).b,(at' p.links t28.toNat).a⟩:af)] t49.toNat).e0).toNat)).iR)+((at' p.links t28.toNat).iR))),(r_1++[t28])⟩:Way) (at' out4 (((at' [(⟨(at' p.links t28.toNat).a,(at' p.links t28.toNat).b⟩:af),(⟨(at' p.links t28.toNat).b,(at' p.links t28.toNat).a⟩:af)] t49.toNat).e1).toNat))).bind fun r_2=>
 dS ((0:Int)≤(at' [(⟨(at' p.links t28.toNat).a,(at' p.links t28.toNat).b⟩:af),(⟨(at' p.links t28.toNat).b,(at' p.links t28.toNat).a⟩:af)] t49.toNat).e1∧(at' [(⟨(at' p.links t28.toNat).a,(at' p.links t28.toNat).b⟩:af),(⟨(at' p.links t28.toNat).b,(at' p.links t28.toNat).a⟩:af)] t49.toNat).e1<(out4.length:Int)) (
 bif r_2 then
 dS ((0:Int)≤(at' [(⟨(at' p.links t28.toNat).a,(at' p.links t28.toNat).b⟩:af),(⟨(at' p.links t28.toNat).b,(at' p.links t28.toNat).a⟩:af)] t49.toNat).e1∧(at' [(⟨(at' p.links t28.toNat).a,(at' p.links t28.toNat).b⟩:af),(⟨(at' p.links t28.toNat).b,(at' p.links t28.toNat).a⟩:af)] t49.toNat).e1<(out4.length:Int)) (
 some (.next ((out4.set (((at' [(⟨(at' p.links t28.toNat).a,(at' p.links t28.toNat).b⟩:af),(⟨(at' p.links t28.toNat).b,(at' p.links t28.toNat).a⟩:af)] t49.toNat).e1).toNat) (⟨true,(IntKind.wrap .i64 (((at' out4 (((at' [(⟨(at' p.links t28.toNat).a,(at' p.links t28.toNat).b⟩:af),(⟨(at' p.links t28.toNat).b,(at' p.links t28.toNat).a⟩:af)] t49.toNat).e0).toNat)).iR)+((at' p.links t28.toNat).iR))),(r_1++[t28])⟩:Way)),true,(IntKind.wrap .i64 (t49+1)))))
 else
 some (.next (out4,changed3,(IntKind.wrap .i64 (t49+1))))))))
 else
 some (.done (.brk (out4,changed3)))
def Co (p:ai) (s_:State):((List Way) × Bool × Int)→Option (aU ((List Way) × Bool × Int) (Ex ((List Way) × Bool) (aU ((List Way) × Bool) (Ex (List Way) (List Way))))):=
 fun zz=>match zz with
 |(out2,changed1,t28)=>
 bif (decide (t28<(p.links.length:Int)))then
 dS ((0:Int)≤t28∧t28<(p.links.length:Int)) (
 (eH p s_ t28).bind fun r_=>
 bif (!r_)then
 some (.next (out2,changed1,(IntKind.wrap .i64 (t28+1))))
 else
 Option.bind (aZ (BZ p t28) FUEL (out2,changed1,0)) fun o=>match o with
 | .ret v=>some v
 | .brk (out5,changed4)=>
 some (.next (out5,changed4,(IntKind.wrap .i64 (t28+1)))))
 else
 some (.done (.brk (out2,changed1)))
def CP (p:ai) (s_:State):((List Way) × Bool)→Option (aU ((List Way) × Bool) (Ex (List Way) (List Way))):=
 fun zz=>match zz with
 |(out,changed)=>
 bif changed then
 Option.bind (aZ (Co p s_) FUEL (out,false,0)) fun o=>match o with
 | .ret v=>some v
 | .brk (out3,changed2)=>
 some (.next (out3,changed2))
 else
 some (.done (.brk out))
def Cy (p:ai) (s_:State) (bus:Int):Option (List Way):=
 dS (((0:Int)≤p.buses)∧((40:Int)*p.buses≤281474976710656)∧((p.buses:Int)≤9223372036854775807)) (
 dS ((0:Int)≤bus∧bus<((List.replicate p.buses.toNat ((⟨false,0,([]:List Int)⟩:Way):Way)).length:Int)) (
 Option.bind (aZ (CP p s_) FUEL (((List.replicate p.buses.toNat ((⟨false,0,([]:List Int)⟩:Way):Way)).set bus.toNat (⟨true,(at' (List.replicate p.buses.toNat ((⟨false,0,([]:List Int)⟩:Way):Way)) bus.toNat).iR,(at' (List.replicate p.buses.toNat ((⟨false,0,([]:List Int)⟩:Way):Way)) bus.toNat).links⟩:Way)),true)) fun o=>match o with
 | .ret v=>some v
 | .brk out1=>
 some out1))
def zf (p:ai) (s_:State) (bus:Int):((List Short) × Int)→Option (aU ((List Short) × Int) (Ex (List Short) ((List Short) × Int))):=
 fun zz=>match zz with
 |(out,t31)=>
 bif (decide (t31<(p.sources.length:Int)))then
 dS ((0:Int)≤t31∧t31<(p.sources.length:Int)) (
 (bif gB [((at' s_.badBus bus.toNat),false)]then iW p s_ t31 else some default).bind fun r_1=>
 dS ((0:Int)≤bus∧bus<(s_.badBus.length:Int)) (
 bif (bif (at' s_.badBus bus.toNat)then true else(!r_1))then
 some (.next (out,(IntKind.wrap .i64 (t31+1))))
 else
 (Cy p s_ ((at' p.sources t31.toNat).bus)).bind fun r_2=>
 dS ((0:Int)≤bus∧bus<(r_2.length:Int)) (
 bif ((at' r_2 bus.toNat).there)then
 dS (((IntKind.wrap .i64 (((at' p.sources t31.toNat).iR)+((at' r_2 bus.toNat).iR)))≠(0:Int))∧((out.length+[(⟨t31,(IntKind.wrap .i64 (((at' p.sources t31.toNat).iR)+((at' r_2 bus.toNat).iR))),(IntKind.wrap .i64 (Int.tdiv (IntKind.wrap .i64 ((IntKind.wrap .i64 ((400000:Int)+(IntKind.wrap .i64 (((at' p.sources t31.toNat).iR)+((at' r_2 bus.toNat).iR))))) - 1)) (IntKind.wrap .i64 (((at' p.sources t31.toNat).iR)+((at' r_2 bus.toNat).iR))))),(at' r_2 bus.toNat).links⟩:Short)].length)*48≤140737488355328)∧(out.length+[(⟨t31,(IntKind.wrap .i64 (((at' p.sources t31.toNat).iR)+((at' r_2 bus.toNat).iR))),(IntKind.wrap .i64 (Int.tdiv (IntKind.wrap .i64 ((IntKind.wrap .i64 ((400000:Int)+(IntKind.wrap .i64 (((at' p.sources t31.toNat).iR)+((at' r_2 bus.toNat).iR))))) - 1)) (IntKind.wrap .i64 (((at' p.sources t31.toNat).iR)+((at' r_2 bus.toNat).iR))))),(at' r_2 bus.toNat).links⟩:Short)].length≤4611686018427387904)) (
 some (.next ((out++[(⟨t31,(IntKind.wrap .i64 (((at' p.sources t31.toNat).iR)+((at' r_2 bus.toNat).iR))),(IntKind.wrap .i64 (Int.tdiv (IntKind.wrap .i64 ((IntKind.wrap .i64 ((400000:Int)+(IntKind.wrap .i64 (((at' p.sources t31.toNat).iR)+((at' r_2 bus.toNat).iR))))) - 1)) (IntKind.wrap .i64 (((at' p.sources t31.toNat).iR)+((at' r_2 bus.toNat).iR))))),(at' r_2 bus.toNat).links⟩:Short)]),(IntKind.wrap .i64 (t31+1)))))
 else
 some (.next (out,(IntKind.wrap .i64 (t31+1)))))))
 else
 some (.done (.brk out))
def lD (p:ai) (s_:State) (bus:Int):Option ((List Short) × Int):=
 (dD p s_).bind fun r_=>
 bif (!decide (r_=0))then
 some (([]:List Short),r_)
 else
 bif (bif (decide (bus<0))then true else(decide (p.buses≤bus)))then
 some (([]:List Short),1)
 else
 Option.bind (aZ (zf p s_ bus) FUEL (([]:List Short),0)) fun o=>match o with
 | .ret v=>some v
 | .brk out1=>
 some (out1,0)
def xQ (s_:(List Int)) (v_:Int):Int→Option (aU Int (Ex Unit Int)):=
 fun t8=>
 bif (decide (t8<(s_.length:Int)))then
 dS ((0:Int)≤t8∧t8<(s_.length:Int)) (
 bif (decide (v_=(at' s_ t8.toNat)))then
 some (.done (.ret t8))
 else
 some (.next (IntKind.wrap .i64 (t8+1))))
 else
 some (.done (.brk ()))
def uV (s_:(List Int)) (v_:Int):Option Int:=
 Option.bind (aZ (xQ s_ v_) FUEL (0)) fun o=>match o with
 | .ret v=>some v
 | .brk _=>
 some (-1)
def qb (s_:(List Int)) (v_:Int):Option Bool:=
 (uV s_ v_).bind fun r_=>
 some (decide (0≤r_))
def rq (i:Int) (o_:(List Int)):Option Bool:=
 some (bif (decide (i<0))then true else(decide ((o_.length:Int)≤i)))
def ow (s_:(List Int)) (o_:(List Int)):Int→Option (aU Int (Ex Unit Int)):=
 fun t8=>
 bif (decide (t8<(s_.length:Int)))then
 (rq (at' s_ t8.toNat) o_).bind fun r_=>
 dS ((0:Int)≤t8∧t8<(s_.length:Int)) (
 bif r_ then
 some (.done (.ret t8))
 else
 some (.next (IntKind.wrap .i64 (t8+1))))
 else
 some (.done (.brk ()))
def lF (s_:(List Int)) (o_:(List Int)):Option Int:=
 Option.bind (aZ (ow s_ o_) FUEL (0)) fun o=>match o with
 | .ret v=>some v
 | .brk _=>
 some (-1)
def kJ (s_:(List Int)) (o_:(List Int)):Option Bool:=
 (lF s_ o_).bind fun r_=>
 some (decide (0≤r_))
def xC (l:(List Short)) (out0:(List Int)) (t25:Int):((List Int) × Int)→Option (aU ((List Int) × Int) (Ex (List Int) (aU ((List Int) × Int) (Ex (List Int) ((List Int) × Bool × Int))))):=
 fun zz=>match zz with
 |(out02,t45)=>
 bif (decide (t45<(out0.length:Int)))then
 (qb ((at' l t25.toNat).links) t45).bind fun r_2=>
 bif r_2 then
 dS ((0:Int)≤t45∧t45<(out02.length:Int)) (
 some (.next ((out02.set t45.toNat (IntKind.wrap .i64 ((at' out02 t45.toNat)+((at' l t25.toNat).amps)))),(IntKind.wrap .i64 (t45+1)))))
 else
 some (.next (out02,(IntKind.wrap .i64 (t45+1))))
 else
 some (.done (.brk out02))
def xq (l:(List Short)):((List Int) × Int)→Option (aU ((List Int) × Int) (Ex (List Int) ((List Int) × Bool × Int))):=
 fun zz=>match zz with
 |(out0,t25)=>
 bif (decide (t25<(l.length:Int)))then
 dS ((0:Int)≤t25∧t25<(l.length:Int)) (
 (bif gB [((bif (decide (((at' l t25.toNat).amps)<0))then true else(decide (1000000<((at' l t25.toNat).amps)))),false)]then kJ ((at' l t25.toNat).links) out0 else some default).bind fun r_1=>
 bif (bif (bif (decide (((at' l t25.toNat).amps)<0))then true else(decide (1000000<((at' l t25.toNat).amps))))then true else r_1)then
 some (.done (.ret (([]:List Int),false,1)))
 else
 Option.bind (aZ (xC l out0 t25) FUEL (out0,0)) fun o=>match o with
 | .ret v=>some v
 | .brk out03=>
 some (.next (out03,(IntKind.wrap .i64 (t25+1)))))
 else
 some (.done (.brk out0))
def kL (p:ai) (l:(List Short)):Option ((List Int) × Bool × Int):=
 (jU p).bind fun r_=>
 bif (!decide (r_=0))then
 some (([]:List Int),false,r_)
 else
 bif (decide (8<(l.length:Int)))then
 some (([]:List Int),false,1)
 else
 dS (((0:Int)≤(p.links.length:Int))∧((8:Int)*(p.links.length:Int)≤281474976710656)∧(((p.links.length:Int):Int)≤9223372036854775807)) (
 Option.bind (aZ (xq l) FUEL ((List.replicate ((p.links.length:Int).toNat) (0:Int)),0)) fun o=>match o with
 | .ret v=>some v
 | .brk out01=>
 some (out01,true,0))
def jf (s_:State) (b:Int):Option Bool:=
 dS (gB [((decide (0≤b)),true)]=true→(0:Int)≤b∧b<(s_.badBus.length:Int)) (
 some (bif (decide (0≤b))then(!(at' s_.badBus b.toNat))else false))
def dQ (a:Int) (b:Int) (there:Int) (back:Int) (network:Network):Option (Int × Network):=
 dS (((network.arcs.length+[(⟨b,there⟩:aV),(⟨a,back⟩:aV)].length)*16≤140737488355328)∧(network.arcs.length+[(⟨b,there⟩:aV),(⟨a,back⟩:aV)].length≤4611686018427387904)) (
 dS (((0:Int)≤a∧a<(network.from_.length:Int))∧(((at' network.from_ a.toNat).length+[(network.arcs.length:Int)].length)*8≤140737488355328)∧((at' network.from_ a.toNat).length+[(network.arcs.length:Int)].length≤4611686018427387904)) (
 dS (((0:Int)≤b∧b<((network.from_.set a.toNat ((at' network.from_ a.toNat)++[(network.arcs.length:Int)])).length:Int))∧(((at' (network.from_.set a.toNat ((at' network.from_ a.toNat)++[(network.arcs.length:Int)])) b.toNat).length+[(IntKind.wrap .i64 ((network.arcs.length:Int)+1))].length)*8≤140737488355328)∧((at' (network.from_.set a.toNat ((at' network.from_ a.toNat)++[(network.arcs.length:Int)])) b.toNat).length+[(IntKind.wrap .i64 ((network.arcs.length:Int)+1))].length≤4611686018427387904)) (
 some ((network.arcs.length:Int),(⟨(network.arcs++[(⟨b,there⟩:aV),(⟨a,back⟩:aV)]),((network.from_.set a.toNat ((at' network.from_ a.toNat)++[(network.arcs.length:Int)])).set b.toNat ((at' (network.from_.set a.toNat ((at' network.from_ a.toNat)++[(network.arcs.length:Int)])) b.toNat)++[(IntKind.wrap .i64 ((network.arcs.length:Int)+1))]))⟩:Network)))))
def eT (network:Network):Option Unit:=
 some ()
def bM (x19:Int) (x20:Int) (o_:(List Int)) (network:Network):(Int × Int)→Option (aU (Int × Int) (Ex Int (Nat × (List Int) × Network))):=
 fun zz=>match zz with
 |(least,at_)=>
 dS ((0:Int)≤at_∧at_<((o_.set x19.toNat x20).length:Int)) (
 bif (decide (0≤(at' (o_.set x19.toNat x20) at_.toNat)))then
 Option.bind (α:=Int) (
 dS (((0:Int)≤at_∧at_<((o_.set x19.toNat x20).length:Int))∧((0:Int)≤(at' (o_.set x19.toNat x20) at_.toNat)∧(at' (o_.set x19.toNat x20) at_.toNat)<(network.arcs.length:Int))) (
 bif (bif (decide (least<0))then true else(decide (((at' network.arcs ((at' (o_.set x19.toNat x20) at_.toNat).toNat)).left)<least)))then
 some ((at' network.arcs ((at' (o_.set x19.toNat x20) at_.toNat).toNat)).left)
 else
 some least)) fun least2=>
 dS (((0:Int)≤at_∧at_<((o_.set x19.toNat x20).length:Int))∧((0:Int)≤(IntKind.wrap .i64 (((BitVec.ofInt (IntKind.bits .i64) (at' (o_.set x19.toNat x20) at_.toNat) ^^^ BitVec.ofInt (IntKind.bits .i64) 1).toNat:Int)))∧(IntKind.wrap .i64 (((BitVec.ofInt (IntKind.bits .i64) (at' (o_.set x19.toNat x20) at_.toNat) ^^^ BitVec.ofInt (IntKind.bits .i64) 1).toNat:Int)))<(network.arcs.length:Int))) (
 some (.next (least2,(at' network.arcs ((IntKind.wrap .i64 (((BitVec.ofInt (IntKind.bits .i64) (at' (o_.set x19.toNat x20) at_.toNat) ^^^ BitVec.ofInt (IntKind.bits .i64) 1).toNat:Int))).toNat)).to_)))
 else
 some (.done (.brk least)))
def bN (x19:Int) (x20:Int) (o_:(List Int)) (least1:Int):((List aV) × Int)→Option (aU ((List aV) × Int) (Ex (List aV) (Nat × (List Int) × Network))):=
 fun zz=>match zz with
 |(o200,at_1)=>
 dS ((0:Int)≤at_1∧at_1<((o_.set x19.toNat x20).length:Int)) (
 bif (decide (0≤(at' (o_.set x19.toNat x20) at_1.toNat)))then
 dS (((0:Int)≤at_1∧at_1<((o_.set x19.toNat x20).length:Int))∧((0:Int)≤(at' (o_.set x19.toNat x20) at_1.toNat)∧(at' (o_.set x19.toNat x20) at_1.toNat)<(o200.length:Int))) (
 dS (((0:Int)≤at_1∧at_1<((o_.set x19.toNat x20).length:Int))∧((0:Int)≤(IntKind.wrap .i64 (((BitVec.ofInt (IntKind.bits .i64) (at' (o_.set x19.toNat x20) at_1.toNat) ^^^ BitVec.ofInt (IntKind.bits .i64) 1).toNat:Int)))∧(IntKind.wrap .i64 (((BitVec.ofInt (IntKind.bits .i64) (at' (o_.set x19.toNat x20) at_1.toNat) ^^^ BitVec.ofInt (IntKind.bits .i64) 1).toNat:Int)))<((o200.set ((at' (o_.set x19.toNat x20) at_1.toNat).toNat) (⟨(at' o200 ((at' (o_.set x19.toNat x20) at_1.toNat).toNat)).to_,(IntKind.wrap .i64 (((at' o200 ((at' (o_.set x19.toNat x20) at_1.toNat).toNat)).left) - least1))⟩:aV)).length:Int))) (
 dS (((0:Int)≤at_1∧at_1<((o_.set x19.toNat x20).length:Int))∧((0:Int)≤(IntKind.wrap .i64 (((BitVec.ofInt (IntKind.bits .i64) (at' (o_.set x19.toNat x20) at_1.toNat) ^^^ BitVec.ofInt (IntKind.bits .i64) 1).toNat:Int)))∧(IntKind.wrap .i64 (((BitVec.ofInt (IntKind.bits .i64) (at' (o_.set x19.toNat x20) at_1.toNat) ^^^ BitVec.ofInt (IntKind.bits .i64) 1).toNat:Int)))<(((o200.set ((at' (o_.set x19.toNat x20) at_1.toNat).toNat) (⟨(at' o200 ((at' (o_.set x19.toNat x20) at_1.toNat).toNat)).to_,(IntKind.wrap .i64 (((at' o200 ((at' (o_.set x19.toNat x20) at_1.toNat).toNat)).left) - least1))⟩:aV)).set ((IntKind.wrap .i64 (((BitVec.ofInt (IntKind.bits .i64) (at' (o_.set x19.toNat x20) at_1.toNat) ^^^ BitVec.ofInt (IntKind.bits .i64) 1).toNat:Int))).toNat) (⟨(at' (o200.set ((at' (o_.set x19.toNat x20) at_1.toNat).toNat) (⟨(at' o200 ((at' (o_.set x19.toNat x20) at_1.toNat).toNat)).to_,(IntKind.wrap .i64 (((at' o200 ((at' (o_.set x19.toNat x20) at_1.toNat).toNat)).left) - least1))⟩:aV)) ((IntKind.wrap .i64 (((BitVec.ofInt (IntKind.bits .i64) (at' (o_.set x19.toNat x20) at_1.toNat) ^^^ BitVec.ofInt (IntKind.bits .i64) 1).toNat:Int))).toNat)).to_,(IntKind.wrap .i64 (((at' (o200.set ((at' (o_.set x19.toNat x20) at_1.toNat).toNat) (⟨(at' o200 ((at' (o_.set x19.toNat x20) at_1.toNat).toNat)).to_,(IntKind.wrap .i64 (((at' o200 ((at' (o_.set x19.toNat x20) at_1.toNat).toNat)).left) - least1))⟩:aV)) ((IntKind.wrap .i64 (((BitVec.ofInt (IntKind.bits .i64) (at' (o_.set x19.toNat x20) at_1.toNat) ^^^ BitVec.ofInt (IntKind.bits .i64) 1).toNat:Int))).toNat)).left)+least1))⟩:aV)).length:Int))) (
 some (.next (((o200.set ((at' (o_.set x19.toNat x20) at_1.toNat).toNat) (⟨(at' o200 ((at' (o_.set x19.toNat x20) at_1.toNat).toNat)).to_,(IntKind.wrap .i64 (((at' o200 ((at' (o_.set x19.toNat x20) at_1.toNat).toNat)).left) - least1))⟩:aV)).set ((IntKind.wrap .i64 (((BitVec.ofInt (IntKind.bits .i64) (at' (o_.set x19.toNat x20) at_1.toNat) ^^^ BitVec.ofInt (IntKind.bits .i64) 1).toNat:Int))).toNat) (⟨(at' (o200.set ((at' (o_.set x19.toNat x20) at_1.toNat).toNat) (⟨(at' o200 ((at' (o_.set x19.toNat x20) at_1.toNat).toNat)).to_,(IntKind.wrap .i64 (((at' o200 ((at' (o_.set x19.toNat x20) at_1.toNat).toNat)).left) - least1))⟩:aV)) ((IntKind.wrap .i64 (((BitVec.ofInt (IntKind.bits .i64) (at' (o_.set x19.toNat x20) at_1.toNat) ^^^ BitVec.ofInt (IntKind.bits .i64) 1).toNat:Int))).toNat)).to_,(IntKind.wrap .i64 (((at' (o200.set ((at' (o_.set x19.toNat x20) at_1.toNat).toNat) (⟨(at' o200 ((at' (o_.set x19.toNat x20) at_1.toNat).toNat)).to_,(IntKind.wrap .i64 (((at' o200 ((at' (o_.set x19.toNat x20) at_1.toNat).toNat)).left) - least1))⟩:aV)) ((IntKind.wrap .i64 (((BitVec.ofInt (IntKind.bits .i64) (at' (o_.set x19.toNat x20) at_1.toNat) ^^^ BitVec.ofInt (IntKind.bits .i64) 1).toNat:Int))).toNat)).left)+least1))⟩:aV)),(at' ((o200.set ((at' (o_.set x19.toNat x20) at_1.toNat).toNat) (⟨(at' o200 ((at' (o_.set x19.toNat x20) at_1.toNat).toNat)).to_,(IntKind.wrap .i64 (((at' o200 ((at' (o_.set x19.toNat x20) at_1.toNat).toNat)).left) - least1))⟩:aV)).set ((IntKind.wrap .i64 (((BitVec.ofInt (IntKind.bits .i64) (at' (o_.set x19.toNat x20) at_1.toNat) ^^^ BitVec.ofInt (IntKind.bits .i64) 1).toNat:Int))).toNat) (⟨(at' (o200.set ((at' (o_.set x19.toNat x20) at_1.toNat).toNat) (⟨(at' o200 ((at' (o_.set x19.toNat x20) at_1.toNat).toNat)).to_,(IntKind.wrap .i64 (((at' o200 ((at' (o_.set x19.toNat x20) at_1.toNat).toNat)).left) - least1))⟩:aV)) ((IntKind.wrap .i64 (((BitVec.ofInt (IntKind.bits .i64) (at' (o_.set x19.toNat x20) at_1.toNat) ^^^ BitVec.ofInt (IntKind.bits .i64) 1).toNat:Int))).toNat)).to_,(IntKind.wrap .i64 (((at' (o200.set ((at' (o_.set x19.toNat x20) at_1.toNat).toNat) (⟨(at' o200 ((at' (o_.set x19.toNat x20) at_1.toNat).toNat)).to_,(IntKind.wrap .i64 (((at' o200 ((at' (o_.set x19.toNat x20) at_1.toNat).toNat)).left) - least1))⟩:aV)) ((IntKind.wrap .i64 (((BitVec.ofInt (IntKind.bits .i64) (at' (o_.set x19.toNat x20) at_1.toNat) ^^^ BitVec.ofInt (IntKind.bits .i64) 1).toNat:Int))).toNat)).left)+least1))⟩:aV)) ((IntKind.wrap .i64 (((BitVec.ofInt (IntKind.bits .i64) (at' (o_.set x19.toNat x20) at_1.toNat) ^^^ BitVec.ofInt (IntKind.bits .i64) 1).toNat:Int))).toNat)).to_)))))
 else
 some (.done (.brk o200)))
def dG (x19:Int) (x20:Int) (int:Int) (o_:(List Int)) (network:Network):Option (Nat × (List Int) × Network):=
 dS ((0:Int)≤x19∧x19<(o_.length:Int)) (
 bif (!decide (x19=int))then
 some (0,(o_.set x19.toNat x20),network)
 else
 Option.bind (aZ (bM x19 x20 o_ network) FUEL ((-1),int)) fun o=>match o with
 | .ret v=>some v
 | .brk least1=>
 Option.bind (aZ (bN x19 x20 o_ least1) FUEL (network.arcs,int)) fun o=>match o with
 | .ret v=>some v
 | .brk o2001=>
 some (2,(o_.set x19.toNat x20),(⟨o2001,network.from_⟩:Network)))
def ja (x:af) (o_:aM):Option aM:=
 dS (((o_.l.length+[x].length)*16≤140737488355328)∧(o_.l.length+[x].length≤4611686018427387904)) (
 some (⟨(o_.l++[x])⟩:aM))
def iE (o_:aM):Option (af × Bool × aM):=
 bif (decide ((o_.l.length:Int)=0))then
 some ((⟨0,0⟩:af),false,o_)
 else
 dS (((0:Int)≤0∧0<(o_.l.length:Int))∧((0:Int)≤(1:Int)∧(1:Int)≤(o_.l.length:Int))) (
 some ((at' o_.l 0),true,(⟨(o_.l.drop 1)⟩:aM)))
def dH (at0:Int) (r_:(Nat × (List Int) × Network)):((List Bool) × (List af) × Int)→Option (aU ((List Bool) × (List af) × Int) (Ex ((List Bool) × (List af)) (aU ((List aV) × (List (List Int)) × (List Int) × (List Bool) × (List af) × Int × Int) (Ex Unit (Nat × (List Int) × Network))))):=
 fun zz=>match zz with
 |(seen1,q01,t36)=>
 bif (decide (t36<((at' r_.2.2.from_ at0.toNat).length:Int)))then
 dS ((0:Int)≤t36∧t36<((at' r_.2.2.from_ at0.toNat).length:Int)) (
 dS ((0:Int)≤(at' (at' r_.2.2.from_ at0.toNat) t36.toNat)∧(at' (at' r_.2.2.from_ at0.toNat) t36.toNat)<(r_.2.2.arcs.length:Int)) (
 dS (gB [((decide (0<((at' r_.2.2.arcs ((at' (at' r_.2.2.from_ at0.toNat) t36.toNat).toNat)).left))),true)]=true→(0:Int)≤(at' r_.2.2.arcs ((at' (at' r_.2.2.from_ at0.toNat) t36.toNat).toNat)).to_∧(at' r_.2.2.arcs ((at' (at' r_.2.2.from_ at0.toNat) t36.toNat).toNat)).to_<(seen1.length:Int)) (
 bif (bif (decide (0<((at' r_.2.2.arcs ((at' (at' r_.2.2.from_ at0.toNat) t36.toNat).toNat)).left)))then(!(at' seen1 (((at' r_.2.2.arcs ((at' (at' r_.2.2.from_ at0.toNat) t36.toNat).toNat)).to_).toNat)))else false)then
 dS ((0:Int)≤(at' r_.2.2.arcs ((at' (at' r_.2.2.from_ at0.toNat) t36.toNat).toNat)).to_∧(at' r_.2.2.arcs ((at' (at' r_.2.2.from_ at0.toNat) t36.toNat).toNat)).to_<(seen1.length:Int)) (
 (ja (⟨(at' r_.2.2.arcs ((at' (at' r_.2.2.from_ at0.toNat) t36.toNat).toNat)).to_,(at' (at' r_.2.2.from_ at0.toNat) t36.toNat)⟩:af) (⟨q01⟩:aM)).bind fun r_1=>
 some (.next ((seen1.set (((at' r_.2.2.arcs ((at' (at' r_.2.2.from_ at0.toNat) t36.toNat).toNat)).to_).toNat) true),r_1.l,(IntKind.wrap .i64 (t36+1)))))
 else
 some (.next (seen1,q01,(IntKind.wrap .i64 (t36+1)))))))
 else
 some (.done (.brk (seen1,q01)))
def fO (int:Int):((List aV) × (List (List Int)) × (List Int) × (List Bool) × (List af) × Int × Int)→Option (aU ((List aV) × (List (List Int)) × (List Int) × (List Bool) × (List af) × Int × Int) (Ex Unit (Nat × (List Int) × Network))):=
 fun zz=>match zz with
 |(o200,o201,o40,seen,q0,at0,at1)=>
 (dG at0 at1 int o40 (⟨o200,o201⟩:Network)).bind fun r_=>
 bif (Nat.beq r_.1 0)then
 dS ((0:Int)≤at0∧at0<(r_.2.2.from_.length:Int)) (
 Option.bind (aZ (dH at0 r_) FUEL (seen,q0,0)) fun o=>match o with
 | .ret v=>some v
 | .brk (seen2,q02)=>
 (iE (⟨q02⟩:aM)).bind fun r_2=>
 bif (!r_2.2.1)then
 some (.done (.ret (0,r_.2.1,r_.2.2)))
 else
 some (.next (r_.2.2.arcs,r_.2.2.from_,r_.2.1,seen2,r_2.2.2.l,r_2.1.e0,r_2.1.e1)))
 else
 some (.done (.ret (r_.1,r_.2.1,r_.2.2)))
def fB (int:Int) (o_:(List Int)) (network:Network):Option (Nat × (List Int) × Network):=
 dS (((0:Int)≤(network.from_.length:Int))∧((1:Int)*(network.from_.length:Int)≤281474976710656)∧(((network.from_.length:Int):Int)≤9223372036854775807)) (
 dS ((0:Int)≤0∧0<((List.replicate ((network.from_.length:Int).toNat) (false:Bool)).length:Int)) (
 Option.bind (aZ (fO int) FUEL (network.arcs,network.from_,o_,((List.replicate ((network.from_.length:Int).toNat) (false:Bool)).set 0 true),([]:List af),0,(-1))) fun o=>match o with
 | .ret v=>some v
 | .brk _=>none))
def iV (sink:Int):((List aV) × (List (List Int)))→Option (aU ((List aV) × (List (List Int))) (Ex Unit Network)):=
 fun zz=>match zz with
 |(o0,o1)=>
 dS (((0:Int)≤(o1.length:Int))∧((8:Int)*(o1.length:Int)≤281474976710656)∧(((o1.length:Int):Int)≤9223372036854775807)) (
 (eT (⟨o0,o1⟩:Network)).bind fun r_=>
 (fB sink (List.replicate ((o1.length:Int).toNat) (0:Int)) (⟨o0,o1⟩:Network)).bind fun r_1=>
 bif Nat.beq r_1.1 0 then
 some (.done (.ret r_1.2.2))
 else
 dS (r_1.1=2) (
 some (.next (r_1.2.2.arcs,r_1.2.2.from_))))
def iP (sink:Int) (network:Network):Option Network:=
 Option.bind (aZ (iV sink) FUEL (network.arcs,network.from_)) fun o=>match o with
 | .ret v=>some v
 | .brk _=>none
def jM (x236:Int) (x237:Int) (plant:ai) (o_:(List Bool)):Option (List Bool):=
 bif (bif (decide (0<x236))then(decide (x236≤plant.buses))else false)then
 dS ((0:Int)≤(IntKind.wrap .i64 (x236 - 1))∧(IntKind.wrap .i64 (x236 - 1))<(o_.length:Int)) (
 some (o_.set ((IntKind.wrap .i64 (x236 - 1)).toNat) true))
 else
 some o_
def bS (x1:(List aV)) (x11:(List (List Int))) (at0:Int):((List Bool) × (List af) × Int)→Option (aU ((List Bool) × (List af) × Int) (Ex ((List Bool) × (List af)) (aU ((List Bool) × (List Bool) × (List af) × Int × Int) (Ex Unit (List Bool))))):=
 fun zz=>match zz with
 |(seen1,q01,t36)=>
 bif (decide (t36<((at' x11 at0.toNat).length:Int)))then
 dS ((0:Int)≤t36∧t36<((at' x11 at0.toNat).length:Int)) (
 dS ((0:Int)≤(at' (at' x11 at0.toNat) t36.toNat)∧(at' (at' x11 at0.toNat) t36.toNat)<(x1.length:Int)) (
 dS (gB [((decide (0<((at' x1 ((at' (at' x11 at0.toNat) t36.toNat).toNat)).left))),true)]=true→(0:Int)≤(at' x1 ((at' (at' x11 at0.toNat) t36.toNat).toNat)).to_∧(at' x1 ((at' (at' x11 at0.toNat) t36.toNat).toNat)).to_<(seen1.length:Int)) (
 bif (bif (decide (0<((at' x1 ((at' (at' x11 at0.toNat) t36.toNat).toNat)).left)))then(!(at' seen1 (((at' x1 ((at' (at' x11 at0.toNat) t36.toNat).toNat)).to_).toNat)))else false)then
 dS ((0:Int)≤(at' x1 ((at' (at' x11 at0.toNat) t36.toNat).toNat)).to_∧(at' x1 ((at' (at' x11 at0.toNat) t36.toNat).toNat)).to_<(seen1.length:Int)) (
 (ja (⟨(at' x1 ((at' (at' x11 at0.toNat) t36.toNat).toNat)).to_,(at' (at' x11 at0.toNat) t36.toNat)⟩:af) (⟨q01⟩:aM)).bind fun r_1=>
 some (.next ((seen1.set (((at' x1 ((at' (at' x11 at0.toNat) t36.toNat).toNat)).to_).toNat) true),r_1.l,(IntKind.wrap .i64 (t36+1)))))
 else
 some (.next (seen1,q01,(IntKind.wrap .i64 (t36+1)))))))
 else
 some (.done (.brk (seen1,q01)))
def eU (x1:(List aV)) (x11:(List (List Int))) (plant:ai):((List Bool) × (List Bool) × (List af) × Int × Int)→Option (aU ((List Bool) × (List Bool) × (List af) × Int × Int) (Ex Unit (List Bool))):=
 fun zz=>match zz with
 |(o280,seen,q0,at0,at1)=>
 (jM at0 at1 plant o280).bind fun r_=>
 dS ((0:Int)≤at0∧at0<(x11.length:Int)) (
 Option.bind (aZ (bS x1 x11 at0) FUEL (seen,q0,0)) fun o=>match o with
 | .ret v=>some v
 | .brk (seen2,q02)=>
 (iE (⟨q02⟩:aM)).bind fun r_2=>
 bif (!r_2.2.1)then
 some (.done (.ret r_))
 else
 some (.next (r_,seen2,r_2.2.2.l,r_2.1.e0,r_2.1.e1)))
def dI (x1:(List aV)) (x11:(List (List Int))) (plant:ai) (o_:(List Bool)):Option (List Bool):=
 dS (((0:Int)≤(x11.length:Int))∧((1:Int)*(x11.length:Int)≤281474976710656)∧(((x11.length:Int):Int)≤9223372036854775807)) (
 dS ((0:Int)≤0∧0<((List.replicate ((x11.length:Int).toNat) (false:Bool)).length:Int)) (
 Option.bind (aZ (eU x1 x11 plant) FUEL (o_,((List.replicate ((x11.length:Int).toNat) (false:Bool)).set 0 true),([]:List af),0,(-1))) fun o=>match o with
 | .ret v=>some v
 | .brk _=>none))
def iM (p:ai) (s_:State):((List aV) × (List (List Int)) × (List (Int × Int)) × Int)→Option (aU ((List aV) × (List (List Int)) × (List (Int × Int)) × Int) (Ex ((List Source) × (List aV) × (List (List Int)) × (List Int) × (List (Int × Int))) (aj × (List Bool) × Int))):=
 fun zz=>match zz with
 |(n0,n1,sources,t68)=>
 bif (decide (t68<(p.sources.length:Int)))then
 dS ((0:Int)≤t68∧t68<(p.sources.length:Int)) (
 (iW p s_ t68).bind fun r_1=>
 bif r_1 then
 (dQ 0 (IntKind.wrap .i64 ((1:Int)+((at' p.sources t68.toNat).bus))) ((at' p.sources t68.toNat).power) 0 (⟨n0,n1⟩:Network)).bind fun r_2=>
 some (.next (r_2.2.arcs,r_2.2.from_,(gN Ff t68 r_2.1 sources),(IntKind.wrap .i64 (t68+1))))
 else
 some (.next (n0,n1,sources,(IntKind.wrap .i64 (t68+1)))))
 else
 some (.done (.brk (p.sources,n0,n1,(List.replicate ((p.sources.length:Int).toNat) (0:Int)),sources)))
def iG (p:ai) (s_:State) (p1:(List Source)):((List aV) × (List (List Int)) × (List (Int × Int)) × Int)→Option (aU ((List aV) × (List (List Int)) × (List (Int × Int)) × Int) (Ex ((List Link) × (List aV) × (List (List Int)) × (List Int) × (List (Int × Int))) (aj × (List Bool) × Int))):=
 fun zz=>match zz with
 |(n02,n12,links,t90)=>
 bif (decide (t90<(p.links.length:Int)))then
 dS ((0:Int)≤t90∧t90<(p.links.length:Int)) (
 (eH (⟨p.buses,p1,p.links,p.racks⟩:ai) s_ t90).bind fun r_3=>
 bif r_3 then
 (dQ (IntKind.wrap .i64 ((1:Int)+((at' p.links t90.toNat).a))) (IntKind.wrap .i64 ((1:Int)+((at' p.links t90.toNat).b))) ((at' p.links t90.toNat).most) ((at' p.links t90.toNat).most) (⟨n02,n12⟩:Network)).bind fun r_4=>
 some (.next (r_4.2.arcs,r_4.2.from_,(gN Ff t90 r_4.1 links),(IntKind.wrap .i64 (t90+1))))
 else
 some (.next (n02,n12,links,(IntKind.wrap .i64 (t90+1)))))
 else
 some (.done (.brk (p.links,n02,n12,(List.replicate ((p.links.length:Int).toNat) (0:Int)),links)))
def fG (p:ai) (s_:State) (t115:(List ax)) (t117:Int):((List aV) × (List (List Int)) × (List (af × Int)) × Int)→Option (aU ((List aV) × (List (List Int)) × (List (af × Int)) × Int) (Ex ((List aV) × (List (List Int)) × (List (af × Int))) (aU ((List ax) × Int × (List aV) × (List (List Int)) × (List af) × (List (af × Int)) × (List ax) × Int × Int) (Ex ((List ax) × Int × (List aV) × (List (List Int)) × (List af) × (List (af × Int))) (aj × (List Bool) × Int))))):=
 fun zz=>match zz with
 |(n06,n16,racks2,t134)=>
 bif (decide (t134<2))then
 dS ((0:Int)≤t134∧t134<((2:Nat):Int)) (
 (jf s_ (at' [((at' t115 t117.toNat).feeds).e0,((at' t115 t117.toNat).feeds).e1] t134.toNat)).bind fun r_6=>
 bif r_6 then
 (dQ (IntKind.wrap .i64 ((1:Int)+(at' [((at' t115 t117.toNat).feeds).e0,((at' t115 t117.toNat).feeds).e1] t134.toNat))) (IntKind.wrap .i64 ((IntKind.wrap .i64 ((1:Int)+p.buses))+t117)) ((at' t115 t117.toNat).power) 0 (⟨n06,n16⟩:Network)).bind fun r_7=>
 some (.next (r_7.2.arcs,r_7.2.from_,(gN (fun a b=>(decide (a.e0=b.e0) && (decide (a.e1=b.e1) && true))) (⟨t117,t134⟩:af) r_7.1 racks2),(IntKind.wrap .i64 (t134+1))))
 else
 some (.next (n06,n16,racks2,(IntKind.wrap .i64 (t134+1)))))
 else
 some (.done (.brk (n06,n16,racks2)))
def iF (p:ai) (s_:State):((List ax) × Int × (List aV) × (List (List Int)) × (List af) × (List (af × Int)) × (List ax) × Int × Int)→Option (aU ((List ax) × Int × (List aV) × (List (List Int)) × (List af) × (List (af × Int)) × (List ax) × Int × Int) (Ex ((List ax) × Int × (List aV) × (List (List Int)) × (List af) × (List (af × Int))) (aj × (List Bool) × Int))):=
 fun zz=>match zz with
 |(p3,sink,n04,n14,x2,racks,t115,t116,t117)=>
 bif (decide (t117<t116))then
 dS ((0:Int)≤t117∧t117<(t115.length:Int)) (
 (dQ (IntKind.wrap .i64 ((IntKind.wrap .i64 ((1:Int)+p.buses))+t117)) sink ((at' t115 t117.toNat).power) 0 (⟨n04,n14⟩:Network)).bind fun r_5=>
 Option.bind (aZ (fG p s_ t115 t117) FUEL (r_5.2.arcs,r_5.2.from_,racks,0)) fun o=>match o with
 | .ret v=>some v
 | .brk (n07,n17,racks3)=>
 some (.next (p3,sink,n07,n17,x2,racks3,t115,t116,(IntKind.wrap .i64 (t117+1)))))
 else
 some (.done (.brk (p3,sink,n04,n14,x2,racks)))
def jJ (sources1:(List (Int × Int))) (r_8:Network):(List Int)→Nat→Option (List Int):=
 fun x01 i=>
 dS (((0:Int)≤(IntKind.wrap .i64 (((BitVec.ofInt (IntKind.bits .i64) (at' (sources1.map Prod.snd) i) ^^^ BitVec.ofInt (IntKind.bits .i64) 1).toNat:Int)))∧(IntKind.wrap .i64 (((BitVec.ofInt (IntKind.bits .i64) (at' (sources1.map Prod.snd) i) ^^^ BitVec.ofInt (IntKind.bits .i64) 1).toNat:Int)))<(r_8.arcs.length:Int))∧((0:Int)≤(at' (sources1.map Prod.fst) i)∧(at' (sources1.map Prod.fst) i)<(x01.length:Int))) (
 some (x01.set ((at' (sources1.map Prod.fst) i).toNat) ((at' r_8.arcs ((IntKind.wrap .i64 (((BitVec.ofInt (IntKind.bits .i64) (at' (sources1.map Prod.snd) i) ^^^ BitVec.ofInt (IntKind.bits .i64) 1).toNat:Int))).toNat)).left)))
def jI (p2:(List Link)) (links1:(List (Int × Int))) (r_8:Network):(List Int)→Nat→Option (List Int):=
 fun x11 i1=>
 dS (((0:Int)≤(at' (links1.map Prod.fst) i1)∧(at' (links1.map Prod.fst) i1)<(p2.length:Int))∧((0:Int)≤(at' (links1.map Prod.snd) i1)∧(at' (links1.map Prod.snd) i1)<(r_8.arcs.length:Int))∧((0:Int)≤(at' (links1.map Prod.fst) i1)∧(at' (links1.map Prod.fst) i1)<(x11.length:Int))) (
 some (x11.set ((at' (links1.map Prod.fst) i1).toNat) (IntKind.wrap .i64 (((at' p2 ((at' (links1.map Prod.fst) i1).toNat)).most) - ((at' r_8.arcs ((at' (links1.map Prod.snd) i1).toNat)).left)))))
def jH (racks1:(List (af × Int))) (r_8:Network):(List af)→Nat→Option (List af):=
 fun x22 i2=>
 bif (decide ((at' (racks1.map Prod.fst) i2).e1=0))then
 dS (((0:Int)≤(IntKind.wrap .i64 (((BitVec.ofInt (IntKind.bits .i64) (at' (racks1.map Prod.snd) i2) ^^^ BitVec.ofInt (IntKind.bits .i64) 1).toNat:Int)))∧(IntKind.wrap .i64 (((BitVec.ofInt (IntKind.bits .i64) (at' (racks1.map Prod.snd) i2) ^^^ BitVec.ofInt (IntKind.bits .i64) 1).toNat:Int)))<(r_8.arcs.length:Int))∧((0:Int)≤(at' (racks1.map Prod.fst) i2).e0∧(at' (racks1.map Prod.fst) i2).e0<(x22.length:Int))) (
 some (x22.set (((at' (racks1.map Prod.fst) i2).e0).toNat) (⟨(at' r_8.arcs ((IntKind.wrap .i64 (((BitVec.ofInt (IntKind.bits .i64) (at' (racks1.map Prod.snd) i2) ^^^ BitVec.ofInt (IntKind.bits .i64) 1).toNat:Int))).toNat)).left,(at' x22 (((at' (racks1.map Prod.fst) i2).e0).toNat)).e1⟩:af)))
 else
 dS ((at' (racks1.map Prod.fst) i2).e1=1) (
 dS (((0:Int)≤(IntKind.wrap .i64 (((BitVec.ofInt (IntKind.bits .i64) (at' (racks1.map Prod.snd) i2) ^^^ BitVec.ofInt (IntKind.bits .i64) 1).toNat:Int)))∧(IntKind.wrap .i64 (((BitVec.ofInt (IntKind.bits .i64) (at' (racks1.map Prod.snd) i2) ^^^ BitVec.ofInt (IntKind.bits .i64) 1).toNat:Int)))<(r_8.arcs.length:Int))∧((0:Int)≤(at' (racks1.map Prod.fst) i2).e0∧(at' (racks1.map Prod.fst) i2).e0<(x22.length:Int))) (
 some (x22.set (((at' (racks1.map Prod.fst) i2).e0).toNat) (⟨(at' x22 (((at' (racks1.map Prod.fst) i2).e0).toNat)).e0,(at' r_8.arcs ((IntKind.wrap .i64 (((BitVec.ofInt (IntKind.bits .i64) (at' (racks1.map Prod.snd) i2) ^^^ BitVec.ofInt (IntKind.bits .i64) 1).toNat:Int))).toNat)).left⟩:af))))
def bQ (p:ai) (s_:State):Option (aj × (List Bool) × Int):=
 (dD p s_).bind fun r_=>
 bif (!decide (r_=0))then
 some ((⟨([]:List Int),([]:List Int),([]:List af)⟩:aj),([]:List Bool),r_)
 else
 dS (((0:Int)≤(IntKind.wrap .i64 ((IntKind.wrap .i64 ((IntKind.wrap .i64 ((1:Int)+p.buses))+(p.racks.length:Int)))+1)))∧((24:Int)*(IntKind.wrap .i64 ((IntKind.wrap .i64 ((IntKind.wrap .i64 ((1:Int)+p.buses))+(p.racks.length:Int)))+1))≤281474976710656)∧(((IntKind.wrap .i64 ((IntKind.wrap .i64 ((IntKind.wrap .i64 ((1:Int)+p.buses))+(p.racks.length:Int)))+1)):Int)≤9223372036854775807)) (
 dS (((0:Int)≤(p.sources.length:Int))∧((8:Int)*(p.sources.length:Int)≤281474976710656)∧(((p.sources.length:Int):Int)≤9223372036854775807)∧((0:Int)≤(p.links.length:Int))∧((8:Int)*(p.links.length:Int)≤281474976710656)∧(((p.links.length:Int):Int)≤9223372036854775807)∧((0:Int)≤(p.racks.length:Int))∧((16:Int)*(p.racks.length:Int)≤281474976710656)∧(((p.racks.length:Int):Int)≤9223372036854775807)) (
 Option.bind (aZ (iM p s_) FUEL (([]:List aV),(List.replicate ((IntKind.wrap .i64 ((IntKind.wrap .i64 ((IntKind.wrap .i64 ((1:Int)+p.buses))+(p.racks.length:Int)))+1)).toNat) (([]:List Int):(List Int))),([]:(List (Int × Int))),0)) fun o=>match o with
 | .ret v=>some v
 | .brk (p1,n01,n11,x0,sources1)=>
 Option.bind (aZ (iG p s_ p1) FUEL (n01,n11,([]:(List (Int × Int))),0)) fun o=>match o with
 | .ret v=>some v
 | .brk (p2,n03,n13,x1,links1)=>
 Option.bind (aZ (iF p s_) FUEL (p.racks,(IntKind.wrap .i64 ((IntKind.wrap .i64 ((1:Int)+p.buses))+(p.racks.length:Int))),n03,n13,(List.replicate ((p.racks.length:Int).toNat) ((⟨0,0⟩:af):af)),([]:(List (af × Int))),p.racks,(p.racks.length:Int),0)) fun o=>match o with
 | .ret v=>some v
 | .brk (p31,sink1,n05,n15,x21,racks1)=>
 (iP sink1 (⟨n05,n15⟩:Network)).bind fun r_8=>
 Option.bind (xV (jJ sources1 r_8) sources1.length (List.range sources1.length) (x0)) fun x02=>
 Option.bind (xV (jI p2 links1 r_8) links1.length (List.range links1.length) (x1)) fun x12=>
 Option.bind (xV (jH racks1 r_8) racks1.length (List.range racks1.length) (x21)) fun x23=>
 dS (((0:Int)≤p.buses)∧((1:Int)*p.buses≤281474976710656)∧((p.buses:Int)≤9223372036854775807)) (
 (eT r_8).bind fun r_9=>
 (dI r_8.arcs r_8.from_ (⟨p.buses,p1,p2,p31⟩:ai) (List.replicate p.buses.toNat (false:Bool))).bind fun r_10=>
 some ((⟨x02,x12,x23⟩:aj),r_10,0))))
def qc (p:ai) (s_:State) (cut:(List Bool)):Option (Int × (List Source) × (List Link) × (List ax) × (List Bool) × (List Bool) × (List Bool) × (List Bool) × (List Bool) × (List Bool) × (List Bool) × (List Bool)):=
 some (p.buses,p.sources,p.links,p.racks,s_.closed,s_.locked,s_.badLink,s_.on_,s_.badSource,s_.earthed,s_.badBus,cut)
def jO (x25:Int) (x251:Int) (x26:Int) (part:(List Part)):Option (List Part):=
 bif (!decide (x25=0))then
 dS (((part.length+[(⟨x25,x251⟩:Part)].length)*16≤140737488355328)∧(part.length+[(⟨x25,x251⟩:Part)].length≤4611686018427387904)) (
 some (part++[(⟨x25,x251⟩:Part)]))
 else
 some part
def oJ (b:Int) (x1:(List Bool)):Option Bool:=
 dS (gB [((decide (0≤b)),true)]=true→(0:Int)≤b∧b<(x1.length:Int)) (
 some (bif (decide (0≤b))then(at' x1 b.toNat)else false))
def lT (s_:(List Int)) (f_:(List Bool)):Int→Option (aU Int (Ex Unit Int)):=
 fun t8=>
 bif (decide (t8<(s_.length:Int)))then
 (oJ (at' s_ t8.toNat) f_).bind fun r_=>
 dS ((0:Int)≤t8∧t8<(s_.length:Int)) (
 bif r_ then
 some (.done (.ret t8))
 else
 some (.next (IntKind.wrap .i64 (t8+1))))
 else
 some (.done (.brk ()))
def jW (s_:(List Int)) (f_:(List Bool)):Option Int:=
 Option.bind (aZ (lT s_ f_) FUEL (0)) fun o=>match o with
 | .ret v=>some v
 | .brk _=>
 some (-1)
def gG (s_:(List Int)) (f_:(List Bool)):Option Bool:=
 (jW s_ f_).bind fun r_=>
 some (decide (0≤r_))
def tO (x1:Int) (x11:(List Source)) (x12:(List Link)) (x13:(List ax)) (x2:(List Bool)) (x21:(List Bool)) (x22:(List Bool)) (x23:(List Bool)) (x24:(List Bool)) (x25:(List Bool)) (x26:(List Bool)) (x3:(List Bool)):((List Part) × Int)→Option (aU ((List Part) × Int) (Ex (List Part) (List Part))):=
 fun zz=>match zz with
 |(o90,t15)=>
 bif (decide (t15<(x11.length:Int)))then
 dS ((0:Int)≤t15∧t15<(x11.length:Int)) (
 (iW (⟨x1,x11,x12,x13⟩:ai) (⟨x2,x21,x22,x23,x24,x25,x26⟩:State) t15).bind fun r_=>
 bif (bif r_ then(!(at' x3 (((at' x11 t15.toNat).bus).toNat)))else false)then
 (jO 2 t15 ((at' x11 t15.toNat).power) o90).bind fun r_1=>
 dS (gB [(r_,true)]=true→(0:Int)≤(at' x11 t15.toNat).bus∧(at' x11 t15.toNat).bus<(x3.length:Int)) (
 some (.next (r_1,(IntKind.wrap .i64 (t15+1)))))
 else
 dS (gB [(r_,true)]=true→(0:Int)≤(at' x11 t15.toNat).bus∧(at' x11 t15.toNat).bus<(x3.length:Int)) (
 some (.next (o90,(IntKind.wrap .i64 (t15+1))))))
 else
 some (.done (.brk o90))
def tK (x1:Int) (x11:(List Source)) (x12:(List Link)) (x13:(List ax)) (x2:(List Bool)) (x21:(List Bool)) (x22:(List Bool)) (x23:(List Bool)) (x24:(List Bool)) (x25:(List Bool)) (x26:(List Bool)) (x3:(List Bool)):((List Part) × Int)→Option (aU ((List Part) × Int) (Ex (List Part) (List Part))):=
 fun zz=>match zz with
 |(o902,t45)=>
 bif (decide (t45<(x12.length:Int)))then
 dS ((0:Int)≤t45∧t45<(x12.length:Int)) (
 (eH (⟨x1,x11,x12,x13⟩:ai) (⟨x2,x21,x22,x23,x24,x25,x26⟩:State) t45).bind fun r_2=>
 bif (bif r_2 then(!((at' x3 (((at' x12 t45.toNat).a).toNat))==(at' x3 (((at' x12 t45.toNat).b).toNat))))else false)then
 (jO 3 t45 ((at' x12 t45.toNat).most) o902).bind fun r_3=>
 dS ((gB [(r_2,true)]=true→(0:Int)≤(at' x12 t45.toNat).a∧(at' x12 t45.toNat).a<(x3.length:Int))∧(gB [(r_2,true)]=true→(0:Int)≤(at' x12 t45.toNat).b∧(at' x12 t45.toNat).b<(x3.length:Int))) (
 some (.next (r_3,(IntKind.wrap .i64 (t45+1)))))
 else
 dS ((gB [(r_2,true)]=true→(0:Int)≤(at' x12 t45.toNat).a∧(at' x12 t45.toNat).a<(x3.length:Int))∧(gB [(r_2,true)]=true→(0:Int)≤(at' x12 t45.toNat).b∧(at' x12 t45.toNat).b<(x3.length:Int))) (
 some (.next (o902,(IntKind.wrap .i64 (t45+1))))))
 else
 some (.done (.brk o902))
def tZ (x13:(List ax)) (x3:(List Bool)):((List Part) × Int)→Option (aU ((List Part) × Int) (Ex (List Part) (List Part))):=
 fun zz=>match zz with
 |(o904,t80)=>
 bif (decide (t80<(x13.length:Int)))then
 dS ((0:Int)≤t80∧t80<(x13.length:Int)) (
 (gG [((at' x13 t80.toNat).feeds).e0,((at' x13 t80.toNat).feeds).e1] x3).bind fun r_4=>
 bif r_4 then
 (jO 0 t80 ((at' x13 t80.toNat).power) o904).bind fun r_5=>
 some (.next (r_5,(IntKind.wrap .i64 (t80+1))))
 else
 some (.next (o904,(IntKind.wrap .i64 (t80+1)))))
 else
 some (.done (.brk o904))
def rE (x1:Int) (x11:(List Source)) (x12:(List Link)) (x13:(List ax)) (x2:(List Bool)) (x21:(List Bool)) (x22:(List Bool)) (x23:(List Bool)) (x24:(List Bool)) (x25:(List Bool)) (x26:(List Bool)) (x3:(List Bool)) (part:(List Part)):Option (List Part):=
 Option.bind (aZ (tO x1 x11 x12 x13 x2 x21 x22 x23 x24 x25 x26 x3) FUEL (part,0)) fun o=>match o with
 | .ret v=>some v
 | .brk o901=>
 Option.bind (aZ (tK x1 x11 x12 x13 x2 x21 x22 x23 x24 x25 x26 x3) FUEL (o901,0)) fun o=>match o with
 | .ret v=>some v
 | .brk o903=>
 Option.bind (aZ (tZ x13 x3) FUEL (o903,0)) fun o=>match o with
 | .ret v=>some v
 | .brk o905=>
 some o905
def zV (p:ai) (s_:State):Option ((List Part) × Int):=
 (bQ p s_).bind fun r_=>
 bif (!decide (r_.2.2=0))then
 some (([]:List Part),r_.2.2)
 else
 (qc p s_ r_.2.1).bind fun r_1=>
 (rE r_1.1 r_1.2.1 r_1.2.2.1 r_1.2.2.2.1 r_1.2.2.2.2.1 r_1.2.2.2.2.2.1 r_1.2.2.2.2.2.2.1 r_1.2.2.2.2.2.2.2.1 r_1.2.2.2.2.2.2.2.2.1 r_1.2.2.2.2.2.2.2.2.2.1 r_1.2.2.2.2.2.2.2.2.2.2.1 r_1.2.2.2.2.2.2.2.2.2.2.2 ([]:List Part)).bind fun r_2=>
 some (r_2,0)
def jb (x:aj):(Int × Int)→Option (aU (Int × Int) (Ex Int Int)):=
 fun zz=>match zz with
 |(n,t9)=>
 bif (decide (t9<(x.racks.length:Int)))then
 dS ((0:Int)≤t9∧t9<(x.racks.length:Int)) (
 some (.next ((IntKind.wrap .i64 (n+(IntKind.wrap .i64 (((at' x.racks t9.toNat).e0)+((at' x.racks t9.toNat).e1))))),(IntKind.wrap .i64 (t9+1)))))
 else
 some (.done (.brk n))
def bK (x:aj):Option Int:=
 Option.bind (aZ (jb x) FUEL (0,0)) fun o=>match o with
 | .ret v=>some v
 | .brk n1=>
 some n1
def CF (p:ai):(Int × Int)→Option (aU (Int × Int) (Ex Int (Bool × Int))):=
 fun zz=>match zz with
 |(n,t25)=>
 bif (decide (t25<(p.racks.length:Int)))then
 dS ((0:Int)≤t25∧t25<(p.racks.length:Int)) (
 some (.next ((IntKind.wrap .i64 (n+((at' p.racks t25.toNat).power))),(IntKind.wrap .i64 (t25+1)))))
 else
 some (.done (.brk n))
def Cx (p:ai) (s_:State):Option (Bool × Int):=
 (bQ p s_).bind fun r_=>
 bif (!decide (r_.2.2=0))then
 some (false,r_.2.2)
 else
 Option.bind (aZ (CF p) FUEL (0,0)) fun o=>match o with
 | .ret v=>some v
 | .brk n1=>
 (bK r_.1).bind fun r_1=>
 some ((decide (r_1=n1)),0)
def uW (a:(List Part)) (b:(List Part)):Int→Option (aU Int (Ex Unit Bool)):=
 fun i=>
 bif (decide (i<(a.length:Int)))then
 dS (((0:Int)≤i∧i<(a.length:Int))∧((0:Int)≤i∧i<(b.length:Int))) (
 bif (!((decide (((at' a i.toNat).kind)=((at' b i.toNat).kind))) && ((decide (((at' a i.toNat).index)=((at' b i.toNat).index))) && true)))then
 some (.done (.ret false))
 else
 some (.next (IntKind.wrap .i64 (i+1))))
 else
 some (.done (.brk ()))
def oC (a:(List Part)) (b:(List Part)):Option Bool:=
 bif (!decide ((a.length:Int)=(b.length:Int)))then
 some false
 else
 Option.bind (aZ (uW a b) FUEL (0)) fun o=>match o with
 | .ret v=>some v
 | .brk _=>
 some true
def iq (x45:Int) (x451:Int) (x46:Int) (int:Int):Option Int:=
 some (IntKind.wrap .i64 (int+x46))
def p8 (x1:Int) (x11:(List Source)) (x12:(List Link)) (x13:(List ax)) (x2:(List Bool)) (x21:(List Bool)) (x22:(List Bool)) (x23:(List Bool)) (x24:(List Bool)) (x25:(List Bool)) (x26:(List Bool)) (x3:(List Bool)):(Int × Int)→Option (aU (Int × Int) (Ex Int Int)):=
 fun zz=>match zz with
 |(o110,t15)=>
 bif (decide (t15<(x11.length:Int)))then
 dS ((0:Int)≤t15∧t15<(x11.length:Int)) (
 (iW (⟨x1,x11,x12,x13⟩:ai) (⟨x2,x21,x22,x23,x24,x25,x26⟩:State) t15).bind fun r_=>
 bif (bif r_ then(!(at' x3 (((at' x11 t15.toNat).bus).toNat)))else false)then
 (iq 2 t15 ((at' x11 t15.toNat).power) o110).bind fun r_1=>
 dS (gB [(r_,true)]=true→(0:Int)≤(at' x11 t15.toNat).bus∧(at' x11 t15.toNat).bus<(x3.length:Int)) (
 some (.next (r_1,(IntKind.wrap .i64 (t15+1)))))
 else
 dS (gB [(r_,true)]=true→(0:Int)≤(at' x11 t15.toNat).bus∧(at' x11 t15.toNat).bus<(x3.length:Int)) (
 some (.next (o110,(IntKind.wrap .i64 (t15+1))))))
 else
 some (.done (.brk o110))
def qw (x1:Int) (x11:(List Source)) (x12:(List Link)) (x13:(List ax)) (x2:(List Bool)) (x21:(List Bool)) (x22:(List Bool)) (x23:(List Bool)) (x24:(List Bool)) (x25:(List Bool)) (x26:(List Bool)) (x3:(List Bool)):(Int × Int)→Option (aU (Int × Int) (Ex Int Int)):=
 fun zz=>match zz with
 |(o1102,t45)=>
 bif (decide (t45<(x12.length:Int)))then
 dS ((0:Int)≤t45∧t45<(x12.length:Int)) (
 (eH (⟨x1,x11,x12,x13⟩:ai) (⟨x2,x21,x22,x23,x24,x25,x26⟩:State) t45).bind fun r_2=>
 bif (bif r_2 then(!((at' x3 (((at' x12 t45.toNat).a).toNat))==(at' x3 (((at' x12 t45.toNat).b).toNat))))else false)then
 (iq 3 t45 ((at' x12 t45.toNat).most) o1102).bind fun r_3=>
 dS ((gB [(r_2,true)]=true→(0:Int)≤(at' x12 t45.toNat).a∧(at' x12 t45.toNat).a<(x3.length:Int))∧(gB [(r_2,true)]=true→(0:Int)≤(at' x12 t45.toNat).b∧(at' x12 t45.toNat).b<(x3.length:Int))) (
 some (.next (r_3,(IntKind.wrap .i64 (t45+1)))))
 else
 dS ((gB [(r_2,true)]=true→(0:Int)≤(at' x12 t45.toNat).a∧(at' x12 t45.toNat).a<(x3.length:Int))∧(gB [(r_2,true)]=true→(0:Int)≤(at' x12 t45.toNat).b∧(at' x12 t45.toNat).b<(x3.length:Int))) (
 some (.next (o1102,(IntKind.wrap .i64 (t45+1))))))
 else
 some (.done (.brk o1102))
def qf (x13:(List ax)) (x3:(List Bool)):(Int × Int)→Option (aU (Int × Int) (Ex Int Int)):=
 fun zz=>match zz with
 |(o1104,t80)=>
 bif (decide (t80<(x13.length:Int)))then
 dS ((0:Int)≤t80∧t80<(x13.length:Int)) (
 (gG [((at' x13 t80.toNat).feeds).e0,((at' x13 t80.toNat).feeds).e1] x3).bind fun r_4=>
 bif r_4 then
 (iq 0 t80 ((at' x13 t80.toNat).power) o1104).bind fun r_5=>
 some (.next (r_5,(IntKind.wrap .i64 (t80+1))))
 else
 some (.next (o1104,(IntKind.wrap .i64 (t80+1)))))
 else
 some (.done (.brk o1104))
def nM (x1:Int) (x11:(List Source)) (x12:(List Link)) (x13:(List ax)) (x2:(List Bool)) (x21:(List Bool)) (x22:(List Bool)) (x23:(List Bool)) (x24:(List Bool)) (x25:(List Bool)) (x26:(List Bool)) (x3:(List Bool)) (int:Int):Option Int:=
 Option.bind (aZ (p8 x1 x11 x12 x13 x2 x21 x22 x23 x24 x25 x26 x3) FUEL (int,0)) fun o=>match o with
 | .ret v=>some v
 | .brk o1101=>
 Option.bind (aZ (qw x1 x11 x12 x13 x2 x21 x22 x23 x24 x25 x26 x3) FUEL (o1101,0)) fun o=>match o with
 | .ret v=>some v
 | .brk o1103=>
 Option.bind (aZ (qf x13 x3) FUEL (o1103,0)) fun o=>match o with
 | .ret v=>some v
 | .brk o1105=>
 some o1105
def vE (s_:State) (cut:(List Bool)):Int→Option (aU Int (Ex Unit (Int × Int))):=
 fun t27=>
 bif (decide (t27<(cut.length:Int)))then
 dS ((0:Int)≤t27∧t27<(cut.length:Int)) (
 dS (gB [((at' cut t27.toNat),true)]=true→(0:Int)≤t27∧t27<(s_.badBus.length:Int)) (
 bif (bif (at' cut t27.toNat)then(at' s_.badBus t27.toNat)else false)then
 some (.done (.ret (0,1)))
 else
 some (.next (IntKind.wrap .i64 (t27+1)))))
 else
 some (.done (.brk ()))
def oF (p:ai) (s_:State) (cut:(List Bool)):Option (Int × Int):=
 (dD p s_).bind fun r_=>
 bif (!decide (r_=0))then
 some (0,r_)
 else
 bif (!decide ((cut.length:Int)=p.buses))then
 some (0,1)
 else
 Option.bind (aZ (vE s_ cut) FUEL (0)) fun o=>match o with
 | .ret v=>some v
 | .brk _=>
 (qc p s_ cut).bind fun r_1=>
 (nM r_1.1 r_1.2.1 r_1.2.2.1 r_1.2.2.2.1 r_1.2.2.2.2.1 r_1.2.2.2.2.2.1 r_1.2.2.2.2.2.2.1 r_1.2.2.2.2.2.2.2.1 r_1.2.2.2.2.2.2.2.2.1 r_1.2.2.2.2.2.2.2.2.2.1 r_1.2.2.2.2.2.2.2.2.2.2.1 r_1.2.2.2.2.2.2.2.2.2.2.2 0).bind fun r_2=>
 some (r_2,0)
def Ao  :Option Unit:=
 some ()
def yj (p:ai) (s_:State) (x:aj):Int→Option (aU Int (Ex Unit Bool)):=
 fun t14=>
 bif (decide (t14<(x.sources.length:Int)))then
 dS ((0:Int)≤t14∧t14<(x.sources.length:Int)) (
 (bif gB [((decide (0<(at' x.sources t14.toNat))),true),((bif (decide ((at' x.sources t14.toNat)<0))then true else(decide (((at' p.sources t14.toNat).power)<(at' x.sources t14.toNat)))),false)]then iW p s_ t14 else some default).bind fun r_=>
 dS (gB [((decide ((at' x.sources t14.toNat)<0)),false)]=true→(0:Int)≤t14∧t14<(p.sources.length:Int)) (
 bif (bif (bif (decide ((at' x.sources t14.toNat)<0))then true else(decide (((at' p.sources t14.toNat).power)<(at' x.sources t14.toNat))))then true else(bif (decide (0<(at' x.sources t14.toNat)))then(!r_)else false))then
 some (.done (.ret false))
 else
 some (.next (IntKind.wrap .i64 (t14+1)))))
 else
 some (.done (.brk ()))
def yo (p:ai) (s_:State) (x:aj):Int→Option (aU Int (Ex Unit Bool)):=
 fun t46=>
 bif (decide (t46<(x.links.length:Int)))then
 dS ((0:Int)≤t46∧t46<(x.links.length:Int)) (
 (bif gB [((!decide ((at' x.links t46.toNat)=0)),true),((bif (decide ((at' x.links t46.toNat)<(IntKind.wrap .i64 (0 - ((at' p.links t46.toNat).most)))))then true else(decide (((at' p.links t46.toNat).most)<(at' x.links t46.toNat)))),false)]then eH p s_ t46 else some default).bind fun r_1=>
 dS (((0:Int)≤t46∧t46<(p.links.length:Int))∧(gB [((decide ((at' x.links t46.toNat)<(IntKind.wrap .i64 (0 - ((at' p.links t46.toNat).most))))),false)]=true→(0:Int)≤t46∧t46<(p.links.length:Int))) (
 bif (bif (bif (decide ((at' x.links t46.toNat)<(IntKind.wrap .i64 (0 - ((at' p.links t46.toNat).most)))))then true else(decide (((at' p.links t46.toNat).most)<(at' x.links t46.toNat))))then true else(bif (!decide ((at' x.links t46.toNat)=0))then(!r_1)else false))then
 some (.done (.ret false))
 else
 some (.next (IntKind.wrap .i64 (t46+1)))))
 else
 some (.done (.brk ()))
def uU (p:ai) (s_:State) (x:aj):Option Bool:=
 Option.bind (aZ (yj p s_ x) FUEL (0)) fun o=>match o with
 | .ret v=>some v
 | .brk _=>
 Option.bind (aZ (yo p s_ x) FUEL (0)) fun o=>match o with
 | .ret v=>some v
 | .brk _=>
 some true
def AQ (p:ai) (s_:State) (x:aj) (t14:Int):Int→Option (aU Int (Ex Unit (aU Int (Ex Unit Bool)))):=
 fun t20=>
 bif (decide (t20<2))then
 dS ((0:Int)≤t20∧t20<((2:Nat):Int)) (
 bif (decide (t20=0))then
 (bif gB [((decide (0<(at' [(at' x.racks t14.toNat).e0,(at' x.racks t14.toNat).e1] t20.toNat))),true),((bif (decide ((at' [(at' x.racks t14.toNat).e0,(at' x.racks t14.toNat).e1] t20.toNat)<0))then true else(decide (((at' p.racks t14.toNat).power)<(at' [(at' x.racks t14.toNat).e0,(at' x.racks t14.toNat).e1] t20.toNat)))),false)]then jf s_ (((at' p.racks t14.toNat).feeds).e0)else some default).bind fun r_=>
 dS ((gB [((decide ((at' [(at' x.racks t14.toNat).e0,(at' x.racks t14.toNat).e1] t20.toNat)<0)),false)]=true→(0:Int)≤t14∧t14<(p.racks.length:Int))∧(gB [((decide (0<(at' [(at' x.racks t14.toNat).e0,(at' x.racks t14.toNat).e1] t20.toNat))),true),((bif (decide ((at' [(at' x.racks t14.toNat).e0,(at' x.racks t14.toNat).e1] t20.toNat)<0))then true else(decide (((at' p.racks t14.toNat).power)<(at' [(at' x.racks t14.toNat).e0,(at' x.racks t14.toNat).e1] t20.toNat)))),false)]=true→(0:Int)≤t14∧t14<(p.racks.length:Int))) (
 bif (bif (bif (decide ((at' [(at' x.racks t14.toNat).e0,(at' x.racks t14.toNat).e1] t20.toNat)<0))then true else(decide (((at' p.racks t14.toNat).power)<(at' [(at' x.racks t14.toNat).e0,(at' x.racks t14.toNat).e1] t20.toNat))))then true else(bif (decide (0<(at' [(at' x.racks t14.toNat).e0,(at' x.racks t14.toNat).e1] t20.toNat)))then(!r_)else false))then
 some (.done (.ret (.done (.ret false))))
 else
 some (.next 1))
 else
 dS (t20=1) (
 (bif gB [((decide (0<(at' [(at' x.racks t14.toNat).e0,(at' x.racks t14.toNat).e1] t20.toNat))),true),((bif (decide ((at' [(at' x.racks t14.toNat).e0,(at' x.racks t14.toNat).e1] t20.toNat)<0))then true else(decide (((at' p.racks t14.toNat).power)<(at' [(at' x.racks t14.toNat).e0,(at' x.racks t14.toNat).e1] t20.toNat)))),false)]then jf s_ (((at' p.racks t14.toNat).feeds).e1)else some default).bind fun r_1=>
 dS ((gB [((decide ((at' [(at' x.racks t14.toNat).e0,(at' x.racks t14.toNat).e1] t20.toNat)<0)),false)]=true→(0:Int)≤t14∧t14<(p.racks.length:Int))∧(gB [((decide (0<(at' [(at' x.racks t14.toNat).e0,(at' x.racks t14.toNat).e1] t20.toNat))),true),((bif (decide ((at' [(at' x.racks t14.toNat).e0,(at' x.racks t14.toNat).e1] t20.toNat)<0))then true else(decide (((at' p.racks t14.toNat).power)<(at' [(at' x.racks t14.toNat).e0,(at' x.racks t14.toNat).e1] t20.toNat)))),false)]=true→(0:Int)≤t14∧t14<(p.racks.length:Int))) (
 bif (bif (bif (decide ((at' [(at' x.racks t14.toNat).e0,(at' x.racks t14.toNat).e1] t20.toNat)<0))then true else(decide (((at' p.racks t14.toNat).power)<(at' [(at' x.racks t14.toNat).e0,(at' x.racks t14.toNat).e1] t20.toNat))))then true else(bif (decide (0<(at' [(at' x.racks t14.toNat).e0,(at' x.racks t14.toNat).e1] t20.toNat)))then(!r_1)else false))then
 some (.done (.ret (.done (.ret false))))
 else
 some (.next 2))))
 else
 some (.done (.brk ()))
def AL (p:ai) (s_:State) (x:aj):Int→Option (aU Int (Ex Unit Bool)):=
 fun t14=>
 bif (decide (t14<(x.racks.length:Int)))then
 dS ((0:Int)≤t14∧t14<(x.racks.length:Int)) (
 Option.bind (aZ (AQ p s_ x t14) FUEL (0)) fun o=>match o with
 | .ret v=>some v
 | .brk _=>
 dS ((0:Int)≤t14∧t14<(p.racks.length:Int)) (
 bif (decide (((at' p.racks t14.toNat).power)<(IntKind.wrap .i64 (((at' x.racks t14.toNat).e0)+((at' x.racks t14.toNat).e1)))))then
 some (.done (.ret false))
 else
 some (.next (IntKind.wrap .i64 (t14+1)))))
 else
 some (.done (.brk ()))
def zP (p:ai) (s_:State) (x:aj):Option Bool:=
 Option.bind (aZ (AL p s_ x) FUEL (0)) fun o=>match o with
 | .ret v=>some v
 | .brk _=>
 some true
def pF (n:Int):Option Bool:=
 some (!decide (n=0))
def lK (s_:(List Int)):Int→Option (aU Int (Ex Unit Int)):=
 fun t8=>
 bif (decide (t8<(s_.length:Int)))then
 (pF (at' s_ t8.toNat)).bind fun r_=>
 dS ((0:Int)≤t8∧t8<(s_.length:Int)) (
 bif r_ then
 some (.done (.ret t8))
 else
 some (.next (IntKind.wrap .i64 (t8+1))))
 else
 some (.done (.brk ()))
def jT (s_:(List Int)):Option Int:=
 Option.bind (aZ (lK s_) FUEL (0)) fun o=>match o with
 | .ret v=>some v
 | .brk _=>
 some (-1)
def jh (s_:(List Int)):Option Bool:=
 (jT s_).bind fun r_=>
 some (decide (0≤r_))
def wI (p:ai) (x:aj):((List Int) × Int)→Option (aU ((List Int) × Int) (Ex (List Int) Bool)):=
 fun zz=>match zz with
 |(left,t22)=>
 bif (decide (t22<(x.sources.length:Int)))then
 dS ((0:Int)≤t22∧t22<(x.sources.length:Int)) (
 dS (((0:Int)≤t22∧t22<(p.sources.length:Int))∧((0:Int)≤(at' p.sources t22.toNat).bus∧(at' p.sources t22.toNat).bus<(left.length:Int))) (
 some (.next ((left.set (((at' p.sources t22.toNat).bus).toNat) (IntKind.wrap .i64 ((at' left (((at' p.sources t22.toNat).bus).toNat))+(at' x.sources t22.toNat)))),(IntKind.wrap .i64 (t22+1))))))
 else
 some (.done (.brk left))
def vY (p:ai) (x:aj):((List Int) × Int)→Option (aU ((List Int) × Int) (Ex (List Int) Bool)):=
 fun zz=>match zz with
 |(left2,t43)=>
 bif (decide (t43<(x.links.length:Int)))then
 dS ((0:Int)≤t43∧t43<(x.links.length:Int)) (
 dS (((0:Int)≤t43∧t43<(p.links.length:Int))∧((0:Int)≤(at' p.links t43.toNat).a∧(at' p.links t43.toNat).a<(left2.length:Int))) (
 dS (((0:Int)≤t43∧t43<(p.links.length:Int))∧((0:Int)≤(at' p.links t43.toNat).b∧(at' p.links t43.toNat).b<((left2.set (((at' p.links t43.toNat).a).toNat) (IntKind.wrap .i64 ((at' left2 (((at' p.links t43.toNat).a).toNat)) - (at' x.links t43.toNat)))).length:Int))) (
 some (.next (((left2.set (((at' p.links t43.toNat).a).toNat) (IntKind.wrap .i64 ((at' left2 (((at' p.links t43.toNat).a).toNat)) - (at' x.links t43.toNat)))).set (((at' p.links t43.toNat).b).toNat) (IntKind.wrap .i64 ((at' (left2.set (((at' p.links t43.toNat).a).toNat) (IntKind.wrap .i64 ((at' left2 (((at' p.links t43.toNat).a).toNat)) - (at' x.links t43.toNat)))) (((at' p.links t43.toNat).b).toNat))+(at' x.links t43.toNat)))),(IntKind.wrap .i64 (t43+1)))))))
 else
 some (.done (.brk left2))
def vF (p:ai) (x:aj) (t76:Int):((List Int) × Int)→Option (aU ((List Int) × Int) (Ex (List Int) (aU ((List Int) × Int) (Ex (List Int) Bool)))):=
 fun zz=>match zz with
 |(left6,t87)=>
 bif (decide (t87<2))then
 dS ((0:Int)≤t87∧t87<((2:Nat):Int)) (
 bif (decide (0≤(at' [((at' p.racks t76.toNat).feeds).e0,((at' p.racks t76.toNat).feeds).e1] t87.toNat)))then
 bif (decide (t87=0))then
 dS ((0:Int)≤(at' [((at' p.racks t76.toNat).feeds).e0,((at' p.racks t76.toNat).feeds).e1] t87.toNat)∧(at' [((at' p.racks t76.toNat).feeds).e0,((at' p.racks t76.toNat).feeds).e1] t87.toNat)<(left6.length:Int)) (
 some (.next ((left6.set ((at' [((at' p.racks t76.toNat).feeds).e0,((at' p.racks t76.toNat).feeds).e1] t87.toNat).toNat) (IntKind.wrap .i64 ((at' left6 ((at' [((at' p.racks t76.toNat).feeds).e0,((at' p.racks t76.toNat).feeds).e1] t87.toNat).toNat)) - ((at' x.racks t76.toNat).e0)))),1)))
 else
 dS (t87=1) (
 dS ((0:Int)≤(at' [((at' p.racks t76.toNat).feeds).e0,((at' p.racks t76.toNat).feeds).e1] t87.toNat)∧(at' [((at' p.racks t76.toNat).feeds).e0,((at' p.racks t76.toNat).feeds).e1] t87.toNat)<(left6.length:Int)) (
 some (.next ((left6.set ((at' [((at' p.racks t76.toNat).feeds).e0,((at' p.racks t76.toNat).feeds).e1] t87.toNat).toNat) (IntKind.wrap .i64 ((at' left6 ((at' [((at' p.racks t76.toNat).feeds).e0,((at' p.racks t76.toNat).feeds).e1] t87.toNat).toNat)) - ((at' x.racks t76.toNat).e1)))),2))))
 else
 some (.next (left6,(IntKind.wrap .i64 (t87+1)))))
 else
 some (.done (.brk left6))
def wh (p:ai) (x:aj):((List Int) × Int)→Option (aU ((List Int) × Int) (Ex (List Int) Bool)):=
 fun zz=>match zz with
 |(left4,t76)=>
 bif (decide (t76<(x.racks.length:Int)))then
 dS ((0:Int)≤t76∧t76<(x.racks.length:Int)) (
 dS ((0:Int)≤t76∧t76<(p.racks.length:Int)) (
 Option.bind (aZ (vF p x t76) FUEL (left4,0)) fun o=>match o with
 | .ret v=>some v
 | .brk left7=>
 some (.next (left7,(IntKind.wrap .i64 (t76+1))))))
 else
 some (.done (.brk left4))
def sJ (p:ai) (s_:State) (x:aj):Option Bool:=
 dS (((0:Int)≤p.buses)∧((8:Int)*p.buses≤281474976710656)∧((p.buses:Int)≤9223372036854775807)) (
 Option.bind (aZ (wI p x) FUEL ((List.replicate p.buses.toNat (0:Int)),0)) fun o=>match o with
 | .ret v=>some v
 | .brk left1=>
 Option.bind (aZ (vY p x) FUEL (left1,0)) fun o=>match o with
 | .ret v=>some v
 | .brk left3=>
 Option.bind (aZ (wh p x) FUEL (left3,0)) fun o=>match o with
 | .ret v=>some v
 | .brk left5=>
 (jh left5).bind fun r_=>
 some (!r_))
def nQ (p:ai) (s_:State) (x:aj):Option Int:=
 (dD p s_).bind fun r_=>
 bif (!decide (r_=0))then
 some r_
 else
 bif (bif (bif (!decide ((x.sources.length:Int)=(p.sources.length:Int)))then true else(!decide ((x.links.length:Int)=(p.links.length:Int))))then true else(!decide ((x.racks.length:Int)=(p.racks.length:Int))))then
 some 20
 else
 (Ao).bind fun r_1=>
 dS ((0:Int)≤0∧0<(3:Int)) (
 (uU p s_ x).bind fun r_2=>
 bif (!r_2)then
 some 20
 else
 dS ((0:Int)≤1∧1<(3:Int)) (
 (zP p s_ x).bind fun r_3=>
 bif (!r_3)then
 some 20
 else
 dS ((0:Int)≤2∧2<(3:Int)) (
 (sJ p s_ x).bind fun r_4=>
 bif (!r_4)then
 some 20
 else
 some 0)))
def j6 (p:ai) (s_:State) (x:aj) (cut:(List Bool)):Option Int:=
 (nQ p s_ x).bind fun r_=>
 bif (!decide (r_=0))then
 some r_
 else
 (oF p s_ cut).bind fun r_1=>
 (bif gB [((decide (r_1.2=0)),true)]then bK x else some default).bind fun r_2=>
 bif (bif (decide (r_1.2=0))then(!decide (r_1.1=r_2))else false)then
 some 7
 else
 some r_1.2
def xK (a:(List Int)) (b:(List Int)):Int→Option (aU Int (Ex Unit Bool)):=
 fun i=>
 bif (decide (i<(a.length:Int)))then
 dS (((0:Int)≤i∧i<(a.length:Int))∧((0:Int)≤i∧i<(b.length:Int))) (
 bif (!decide ((at' a i.toNat)=(at' b i.toNat)))then
 some (.done (.ret false))
 else
 some (.next (IntKind.wrap .i64 (i+1))))
 else
 some (.done (.brk ()))
def eB (a:(List Int)) (b:(List Int)):Option Bool:=
 bif (!decide ((a.length:Int)=(b.length:Int)))then
 some false
 else
 Option.bind (aZ (xK a b) FUEL (0)) fun o=>match o with
 | .ret v=>some v
 | .brk _=>
 some true
def qR (a:(List Short)) (b:(List Short)):Int→Option (aU Int (Ex Unit Bool)):=
 fun i=>
 bif (decide (i<(a.length:Int)))then
 (bif gB [((bif (bif (!decide (((at' a i.toNat).source)=((at' b i.toNat).source)))then true else(!decide (((at' a i.toNat).iR)=((at' b i.toNat).iR))))then true else(!decide (((at' a i.toNat).amps)=((at' b i.toNat).amps)))),false)]then eB ((at' a i.toNat).links) ((at' b i.toNat).links)else some default).bind fun r_=>
 dS (((0:Int)≤i∧i<(a.length:Int))∧((0:Int)≤i∧i<(b.length:Int))∧(gB [((!decide (((at' a i.toNat).source)=((at' b i.toNat).source))),false)]=true→(0:Int)≤i∧i<(a.length:Int))∧(gB [((!decide (((at' a i.toNat).source)=((at' b i.toNat).source))),false)]=true→(0:Int)≤i∧i<(b.length:Int))∧(gB [((bif (!decide (((at' a i.toNat).source)=((at' b i.toNat).source)))then true else(!decide (((at' a i.toNat).iR)=((at' b i.toNat).iR)))),false)]=true→(0:Int)≤i∧i<(a.length:Int))∧(gB [((bif (!decide (((at' a i.toNat).source)=((at' b i.toNat).source)))then true else(!decide (((at' a i.toNat).iR)=((at' b i.toNat).iR)))),false)]=true→(0:Int)≤i∧i<(b.length:Int))∧(gB [((bif (bif (!decide (((at' a i.toNat).source)=((at' b i.toNat).source)))then true else(!decide (((at' a i.toNat).iR)=((at' b i.toNat).iR))))then true else(!decide (((at' a i.toNat).amps)=((at' b i.toNat).amps)))),false)]=true→(0:Int)≤i∧i<(a.length:Int))∧(gB [((bif (bif (!decide (((at' a i.toNat).source)=((at' b i.toNat).source)))then true else(!decide (((at' a i.toNat).iR)=((at' b i.toNat).iR))))then true else(!decide (((at' a i.toNat).amps)=((at' b i.toNat).amps)))),false)]=true→(0:Int)≤i∧i<(b.length:Int))) (
 bif (bif (bif (bif (!decide (((at' a i.toNat).source)=((at' b i.toNat).source)))then true else(!decide (((at' a i.toNat).iR)=((at' b i.toNat).iR))))then true else(!decide (((at' a i.toNat).amps)=((at' b i.toNat).amps))))then true else(!r_))then
 some (.done (.ret false))
 else
 some (.next (IntKind.wrap .i64 (i+1))))
 else
 some (.done (.brk ()))
def gT (a:(List Short)) (b:(List Short)):Option Bool:=
 bif (!decide ((a.length:Int)=(b.length:Int)))then
 some false
 else
 Option.bind (aZ (qR a b) FUEL (0)) fun o=>match o with
 | .ret v=>some v
 | .brk _=>
 some true
def vg (racks:(List Int)):((List ax) × Int)→Option (aU ((List ax) × Int) (Ex (List ax) (ai × State))):=
 fun zz=>match zz with
 |(p3,i)=>
 bif (decide (i<(racks.length:Int)))then
 dS (((0:Int)≤i∧i<(racks.length:Int))∧((p3.length+[(⟨(⟨1,(-1)⟩:af),(at' racks i.toNat),1⟩:ax)].length)*32≤140737488355328)∧(p3.length+[(⟨(⟨1,(-1)⟩:af),(at' racks i.toNat),1⟩:ax)].length≤4611686018427387904)) (
 some (.next ((p3++[(⟨(⟨1,(-1)⟩:af),(at' racks i.toNat),1⟩:ax)]),(IntKind.wrap .i64 (i+1)))))
 else
 some (.done (.brk p3))
def oD (racks:(List Int)):Option (ai × State):=
 Option.bind (aZ (vg racks) FUEL (([]:List ax),0)) fun o=>match o with
 | .ret v=>some v
 | .brk p31=>
 dS (((0:Int)≤2)∧((1:Int)*2≤281474976710656)∧((2:Int)≤9223372036854775807)∧((0:Int)≤3)∧((1:Int)*3≤281474976710656)∧((3:Int)≤9223372036854775807)) (
 some ((⟨3,[(⟨0,1,500,0,20⟩:Source),(⟨2,2,300,0,40⟩:Source)],[(⟨0,1,3,400,10,([]:List je)⟩:Link),(⟨1,2,3,400,10,([]:List je)⟩:Link)],p31⟩:ai),(⟨[true,true],(List.replicate 2 (false:Bool)),(List.replicate 2 (false:Bool)),[true,true],(List.replicate 2 (false:Bool)),(List.replicate 3 (false:Bool)),(List.replicate 3 (false:Bool))⟩:State)))
def iY  :Option Bool:=
 (oD [100]).bind fun r_=>
 (bQ r_.1 r_.2).bind fun r_1=>
 (Cx r_.1 r_.2).bind fun r_2=>
 (bif gB [((bif (!decide (r_1.2.2=0))then true else(!decide (r_2.2=0))),false)]then bK r_1.1 else some default).bind fun r_3=>
 bif (bif (bif (bif (!decide (r_1.2.2=0))then true else(!decide (r_2.2=0)))then true else(!decide (r_3=100)))then true else(!r_2.1))then
 some false
 else
 (nC r_1.2.1 [true,true,true]).bind fun r_4=>
 bif (!r_4)then
 some false
 else
 (oD [300,600]).bind fun r_5=>
 (bQ r_5.1 r_5.2).bind fun r_6=>
 (oF r_5.1 r_5.2 r_6.2.1).bind fun r_7=>
 (zV r_5.1 r_5.2).bind fun r_8=>
 (bif gB [((bif (bif (!decide (r_6.2.2=0))then true else(!decide (r_7.2=0)))then true else(!decide (r_8.2=0))),false)]then bK r_6.1 else some default).bind fun r_9=>
 bif (bif (bif (bif (bif (!decide (r_6.2.2=0))then true else(!decide (r_7.2=0)))then true else(!decide (r_8.2=0)))then true else(!decide (r_9=700)))then true else(!decide (r_7.1=700)))then
 bif (bif (bif (bif (bif (bif (!decide (r_6.2.2=0))then true else(!decide (r_7.2=0)))then true else(!decide (r_8.2=0)))then true else(!decide (r_9=700)))then true else(!decide (r_7.1=700)))then true else false)then
 (bif gB [((bif (bif (bif (bif (bif (bif (!decide (r_6.2.2=0))then true else(!decide (r_7.2=0)))then true else(!decide (r_8.2=0)))then true else(!decide (r_9=700)))then true else(!decide (r_7.1=700)))then true else false)then true else false),false)]then j6 r_5.1 r_5.2 r_6.1 r_6.2.1 else some default).bind fun r_10=>
 bif (bif (bif (bif (bif (bif (bif (bif (!decide (r_6.2.2=0))then true else(!decide (r_7.2=0)))then true else(!decide (r_8.2=0)))then true else(!decide (r_9=700)))then true else(!decide (r_7.1=700)))then true else false)then true else false)then true else(!decide (r_10=0)))then
 some false
 else
 (lD r_5.1 r_5.2 1).bind fun r_11=>
 (kL r_5.1 r_11.1).bind fun r_12=>
 bif (bif (decide (r_11.2=0))then(decide (r_12.2.2=0))else false)then
 (gT r_11.1 [(⟨0,30,13334,[0]⟩:Short),(⟨1,50,8000,[1]⟩:Short)]).bind fun r_13=>
 bif (bif (bif (decide (r_11.2=0))then(decide (r_12.2.2=0))else false)then r_13 else false)then
 (eB r_12.1 [13334,8000]).bind fun r_14=>
 some r_14
 else
 some false
 else
 bif (bif (bif (decide (r_11.2=0))then(decide (r_12.2.2=0))else false)then false else false)then
 (eB r_12.1 [13334,8000]).bind fun r_15=>
 some r_15
 else
 some false
 else
 (oC r_8.1 [(⟨2,1⟩:Part),(⟨3,0⟩:Part)]).bind fun r_16=>
 (bif gB [((bif (bif (bif (bif (bif (bif (!decide (r_6.2.2=0))then true else(!decide (r_7.2=0)))then true else(!decide (r_8.2=0)))then true else(!decide (r_9=700)))then true else(!decide (r_7.1=700)))then true else false)then true else(!r_16)),false)]then j6 r_5.1 r_5.2 r_6.1 r_6.2.1 else some default).bind fun r_17=>
 bif (bif (bif (bif (bif (bif (bif (bif (!decide (r_6.2.2=0))then true else(!decide (r_7.2=0)))then true else(!decide (r_8.2=0)))then true else(!decide (r_9=700)))then true else(!decide (r_7.1=700)))then true else false)then true else(!r_16))then true else(!decide (r_17=0)))then
 some false
 else
 (lD r_5.1 r_5.2 1).bind fun r_18=>
 (kL r_5.1 r_18.1).bind fun r_19=>
 bif (bif (decide (r_18.2=0))then(decide (r_19.2.2=0))else false)then
 (gT r_18.1 [(⟨0,30,13334,[0]⟩:Short),(⟨1,50,8000,[1]⟩:Short)]).bind fun r_20=>
 bif (bif (bif (decide (r_18.2=0))then(decide (r_19.2.2=0))else false)then r_20 else false)then
 (eB r_19.1 [13334,8000]).bind fun r_21=>
 some r_21
 else
 some false
 else
 bif (bif (bif (decide (r_18.2=0))then(decide (r_19.2.2=0))else false)then false else false)then
 (eB r_19.1 [13334,8000]).bind fun r_22=>
 some r_22
 else
 some false
 else
 (nC r_6.2.1 [true,false,false]).bind fun r_23=>
 bif (bif (bif (bif (bif (bif (!decide (r_6.2.2=0))then true else(!decide (r_7.2=0)))then true else(!decide (r_8.2=0)))then true else(!decide (r_9=700)))then true else(!decide (r_7.1=700)))then true else(!r_23))then
 (bif gB [((bif (bif (bif (bif (bif (bif (!decide (r_6.2.2=0))then true else(!decide (r_7.2=0)))then true else(!decide (r_8.2=0)))then true else(!decide (r_9=700)))then true else(!decide (r_7.1=700)))then true else(!r_23))then true else false),false)]then j6 r_5.1 r_5.2 r_6.1 r_6.2.1 else some default).bind fun r_24=>
 bif (bif (bif (bif (bif (bif (bif (bif (!decide (r_6.2.2=0))then true else(!decide (r_7.2=0)))then true else(!decide (r_8.2=0)))then true else(!decide (r_9=700)))then true else(!decide (r_7.1=700)))then true else(!r_23))then true else false)then true else(!decide (r_24=0)))then
 some false
 else
 (lD r_5.1 r_5.2 1).bind fun r_25=>
 (kL r_5.1 r_25.1).bind fun r_26=>
 bif (bif (decide (r_25.2=0))then(decide (r_26.2.2=0))else false)then
 (gT r_25.1 [(⟨0,30,13334,[0]⟩:Short),(⟨1,50,8000,[1]⟩:Short)]).bind fun r_27=>
 bif (bif (bif (decide (r_25.2=0))then(decide (r_26.2.2=0))else false)then r_27 else false)then
 (eB r_26.1 [13334,8000]).bind fun r_28=>
 some r_28
 else
 some false
 else
 bif (bif (bif (decide (r_25.2=0))then(decide (r_26.2.2=0))else false)then false else false)then
 (eB r_26.1 [13334,8000]).bind fun r_29=>
 some r_29
 else
 some false
 else
 (oC r_8.1 [(⟨2,1⟩:Part),(⟨3,0⟩:Part)]).bind fun r_30=>
 (bif gB [((bif (bif (bif (bif (bif (bif (!decide (r_6.2.2=0))then true else(!decide (r_7.2=0)))then true else(!decide (r_8.2=0)))then true else(!decide (r_9=700)))then true else(!decide (r_7.1=700)))then true else(!r_23))then true else(!r_30)),false)]then j6 r_5.1 r_5.2 r_6.1 r_6.2.1 else some default).bind fun r_31=>
 bif (bif (bif (bif (bif (bif (bif (bif (!decide (r_6.2.2=0))then true else(!decide (r_7.2=0)))then true else(!decide (r_8.2=0)))then true else(!decide (r_9=700)))then true else(!decide (r_7.1=700)))then true else(!r_23))then true else(!r_30))then true else(!decide (r_31=0)))then
 some false
 else
 (lD r_5.1 r_5.2 1).bind fun r_32=>
 (kL r_5.1 r_32.1).bind fun r_33=>
 bif (bif (decide (r_32.2=0))then(decide (r_33.2.2=0))else false)then
 (gT r_32.1 [(⟨0,30,13334,[0]⟩:Short),(⟨1,50,8000,[1]⟩:Short)]).bind fun r_34=>
 bif (bif (bif (decide (r_32.2=0))then(decide (r_33.2.2=0))else false)then r_34 else false)then
 (eB r_33.1 [13334,8000]).bind fun r_35=>
 some r_35
 else
 some false
 else
 bif (bif (bif (decide (r_32.2=0))then(decide (r_33.2.2=0))else false)then false else false)then
 (eB r_33.1 [13334,8000]).bind fun r_36=>
 some r_36
 else
 some false
def mZ (x:Int) (n:Int):Option Int:=
 bif (decide (n<1))then
 some 0
 else
 dS (n≠(0:Int)) (
 bif (decide ((Int.tmod x n)<0))then
 some (IntKind.wrap .i64 ((Int.tmod x n)+n))
 else
 some (Int.tmod x n))
def jd (p:ai) (t24:Int):((List Part) × Int)→Option (aU ((List Part) × Int) (Ex (List Part) (aU ((List Part) × Int) (Ex (List Part) ((List Part) × Int))))):=
 fun zz=>match zz with
 |(out2,t30)=>
 bif (decide (t30<(at' [p.buses,(p.sources.length:Int),(p.links.length:Int)] t24.toNat)))then
 dS (((out2.length+[(⟨(IntKind.wrap .i64 (t24+1)),t30⟩:Part)].length)*16≤140737488355328)∧(out2.length+[(⟨(IntKind.wrap .i64 (t24+1)),t30⟩:Part)].length≤4611686018427387904)) (
 some (.next ((out2++[(⟨(IntKind.wrap .i64 (t24+1)),t30⟩:Part)]),(IntKind.wrap .i64 (t30+1)))))
 else
 some (.done (.brk out2))
def gV (p:ai):((List Part) × Int)→Option (aU ((List Part) × Int) (Ex (List Part) ((List Part) × Int))):=
 fun zz=>match zz with
 |(out,t24)=>
 bif (decide (t24<([p.buses,(p.sources.length:Int),(p.links.length:Int)].length:Int)))then
 dS ((0:Int)≤t24∧t24<([p.buses,(p.sources.length:Int),(p.links.length:Int)].length:Int)) (
 Option.bind (aZ (jd p t24) FUEL (out,0)) fun o=>match o with
 | .ret v=>some v
 | .brk out3=>
 some (.next (out3,(IntKind.wrap .i64 (t24+1)))))
 else
 some (.done (.brk out))
def ol (p:ai):Option ((List Part) × Int):=
 (jU p).bind fun r_=>
 bif (!decide (r_=0))then
 some (([]:List Part),r_)
 else
 Option.bind (aZ (gV p) FUEL (([]:List Part),0)) fun o=>match o with
 | .ret v=>some v
 | .brk out1=>
 some (out1,0)
def lU (s_:(List Bool)) (s_nn:Bool):Option (List Bool):=
 bif (!s_nn)then
 some ([]:List Bool)
 else
 dS (((([]:List Bool).length+s_.length)*1≤140737488355328)∧(([]:List Bool).length+s_.length≤4611686018427387904)) (
 some (([]:List Bool)++s_))
def bV (s:(List Bool)):Option (List Bool):=lU s true
def mK (s_:State):Option State:=
 dS ((0:Int)≤0∧0<(7:Int)) (
 (bV s_.closed).bind fun r_=>
 dS ((0:Int)≤1∧1<(7:Int)) (
 (bV s_.locked).bind fun r_1=>
 dS ((0:Int)≤2∧2<(7:Int)) (
 (bV s_.badLink).bind fun r_2=>
 dS ((0:Int)≤3∧3<(7:Int)) (
 (bV s_.on_).bind fun r_3=>
 dS ((0:Int)≤4∧4<(7:Int)) (
 (bV s_.badSource).bind fun r_4=>
 dS ((0:Int)≤5∧5<(7:Int)) (
 (bV s_.earthed).bind fun r_5=>
 dS ((0:Int)≤6∧6<(7:Int)) (
 (bV s_.badBus).bind fun r_6=>
 some (⟨r_,r_1,r_2,r_3,r_4,r_5,r_6⟩:State))))))))
def pO (p:ai) (s_:State) (x:Part) (is:Bool):Option (State × Int):=
 (dD p s_).bind fun r_=>
 bif (!decide (r_=0))then
 some ((⟨([]:List Bool),([]:List Bool),([]:List Bool),([]:List Bool),([]:List Bool),([]:List Bool),([]:List Bool)⟩:State),r_)
 else
 (mK s_).bind fun r_1=>
 bif (Ff x.kind 1)then
 (aS x.index 0 (IntKind.wrap .i64 ((r_1.badBus.length:Int) - 1))).bind fun r_2=>
 bif (!r_2)then
 some ((⟨([]:List Bool),([]:List Bool),([]:List Bool),([]:List Bool),([]:List Bool),([]:List Bool),([]:List Bool)⟩:State),14)
 else
 dS ((0:Int)≤x.index∧x.index<(r_1.badBus.length:Int)) (
 some ((⟨r_1.closed,r_1.locked,r_1.badLink,r_1.on_,r_1.badSource,r_1.earthed,(r_1.badBus.set x.index.toNat is)⟩:State),0))
 else
 bif (Ff x.kind 2)then
 (aS x.index 0 (IntKind.wrap .i64 ((r_1.badSource.length:Int) - 1))).bind fun r_3=>
 bif (!r_3)then
 some ((⟨([]:List Bool),([]:List Bool),([]:List Bool),([]:List Bool),([]:List Bool),([]:List Bool),([]:List Bool)⟩:State),14)
 else
 dS ((0:Int)≤x.index∧x.index<(r_1.badSource.length:Int)) (
 some ((⟨r_1.closed,r_1.locked,r_1.badLink,r_1.on_,(r_1.badSource.set x.index.toNat is),r_1.earthed,r_1.badBus⟩:State),0))
 else
 bif (Ff x.kind 3)then
 (aS x.index 0 (IntKind.wrap .i64 ((r_1.badLink.length:Int) - 1))).bind fun r_4=>
 bif (!r_4)then
 some ((⟨([]:List Bool),([]:List Bool),([]:List Bool),([]:List Bool),([]:List Bool),([]:List Bool),([]:List Bool)⟩:State),14)
 else
 dS ((0:Int)≤x.index∧x.index<(r_1.badLink.length:Int)) (
 some ((⟨r_1.closed,r_1.locked,(r_1.badLink.set x.index.toNat is),r_1.on_,r_1.badSource,r_1.earthed,r_1.badBus⟩:State),0))
 else
 (aS x.index 0 (-1)).bind fun r_5=>
 bif (!r_5)then
 some ((⟨([]:List Bool),([]:List Bool),([]:List Bool),([]:List Bool),([]:List Bool),([]:List Bool),([]:List Bool)⟩:State),14)
 else
 none
def oo (p:ai) (s_:State) (x:Part):Option (State × Int):=
 (pO p s_ x true).bind fun r_=>
 some (r_.1,r_.2)
def jQ (p:ai) (s_:State) (n:Int) (k:Int) (m:Int):Option Bool:=
 (bif gB [((bif (bif (decide (60<(p.sources.length:Int)))then true else(decide (60<(p.links.length:Int))))then true else(decide (60<(p.racks.length:Int)))),false)]then dD p s_ else some default).bind fun r_=>
 bif (bif (bif (bif (decide (60<(p.sources.length:Int)))then true else(decide (60<(p.links.length:Int))))then true else(decide (60<(p.racks.length:Int))))then true else(!decide (r_=0)))then
 (iY).bind fun r_1=>
 some r_1
 else
 (bQ p s_).bind fun r_2=>
 (ol p).bind fun r_3=>
 bif (bif (bif (!decide (r_2.2.2=0))then true else(!decide (r_3.2=0)))then true else(decide ((r_3.1.length:Int)=0)))then
 some false
 else
 (mZ n (r_3.1.length:Int)).bind fun r_4=>
 (oo p s_ (at' r_3.1 r_4.toNat)).bind fun r_5=>
 dS ((0:Int)≤r_4∧r_4<(r_3.1.length:Int)) (
 bif (!decide (r_5.2=0))then
 some false
 else
 (bQ p r_5.1).bind fun r_6=>
 (bif gB [((!decide (r_6.2.2=0)),false)]then bK r_6.1 else some default).bind fun r_7=>
 (bif gB [((!decide (r_6.2.2=0)),false)]then bK r_2.1 else some default).bind fun r_8=>
 bif (bif (!decide (r_6.2.2=0))then true else(decide (r_8<r_7)))then
 some false
 else
 (lm s_).bind fun r_9=>
 bif (decide (0<(p.links.length:Int)))then
 (mZ k (p.links.length:Int)).bind fun r_10=>
 dS ((0:Int)≤r_10∧r_10<(r_9.closed.length:Int)) (
 bif (decide (0<(p.sources.length:Int)))then
 (mZ m (p.sources.length:Int)).bind fun r_11=>
 dS ((0:Int)≤r_11∧r_11<(r_9.on_.length:Int)) (
 (bQ p (⟨(r_9.closed.set r_10.toNat true),r_9.locked,r_9.badLink,(r_9.on_.set r_11.toNat true),r_9.badSource,r_9.earthed,r_9.badBus⟩:State)).bind fun r_12=>
 (bif gB [((decide (r_12.2.2=0)),true)]then bK r_12.1 else some default).bind fun r_13=>
 (bif gB [((decide (r_12.2.2=0)),true)]then bK r_2.1 else some default).bind fun r_14=>
 (bif gB [((bif (decide (r_12.2.2=0))then(decide (r_14≤r_13))else false),true)]then iY else some default).bind fun r_15=>
 some (bif (bif (decide (r_12.2.2=0))then(decide (r_14≤r_13))else false)then r_15 else false))
 else
 (bQ p (⟨(r_9.closed.set r_10.toNat true),r_9.locked,r_9.badLink,r_9.on_,r_9.badSource,r_9.earthed,r_9.badBus⟩:State)).bind fun r_16=>
 (bif gB [((decide (r_16.2.2=0)),true)]then bK r_16.1 else some default).bind fun r_17=>
 (bif gB [((decide (r_16.2.2=0)),true)]then bK r_2.1 else some default).bind fun r_18=>
 (bif gB [((bif (decide (r_16.2.2=0))then(decide (r_18≤r_17))else false),true)]then iY else some default).bind fun r_19=>
 some (bif (bif (decide (r_16.2.2=0))then(decide (r_18≤r_17))else false)then r_19 else false))
 else
 bif (decide (0<(p.sources.length:Int)))then
 (mZ m (p.sources.length:Int)).bind fun r_20=>
 dS ((0:Int)≤r_20∧r_20<(r_9.on_.length:Int)) (
 (bQ p (⟨r_9.closed,r_9.locked,r_9.badLink,(r_9.on_.set r_20.toNat true),r_9.badSource,r_9.earthed,r_9.badBus⟩:State)).bind fun r_21=>
 (bif gB [((decide (r_21.2.2=0)),true)]then bK r_21.1 else some default).bind fun r_22=>
 (bif gB [((decide (r_21.2.2=0)),true)]then bK r_2.1 else some default).bind fun r_23=>
 (bif gB [((bif (decide (r_21.2.2=0))then(decide (r_23≤r_22))else false),true)]then iY else some default).bind fun r_24=>
 some (bif (bif (decide (r_21.2.2=0))then(decide (r_23≤r_22))else false)then r_24 else false))
 else
 (bQ p r_9).bind fun r_25=>
 (bif gB [((decide (r_25.2.2=0)),true)]then bK r_25.1 else some default).bind fun r_26=>
 (bif gB [((decide (r_25.2.2=0)),true)]then bK r_2.1 else some default).bind fun r_27=>
 (bif gB [((bif (decide (r_25.2.2=0))then(decide (r_27≤r_26))else false),true)]then iY else some default).bind fun r_28=>
 some (bif (bif (decide (r_25.2.2=0))then(decide (r_27≤r_26))else false)then r_28 else false))
end Sg
