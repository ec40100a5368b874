import Derived.Test.YtolddefbejdanaaDoorWaLc
import Derived.Test.YtolddefbejdanaaDoorWaLd
set_option linter.all false
namespace Sg
open Go
structure Source where
 bus:Int
 kind:Int
 power:Int
 sync:Int
 ohm:Int
instance:Inhabited Source:=⟨⟨default,default,default,default,default⟩⟩
def Source.cell (x:Source):Nat→DV
 |0=>(.int .i64 x.bus)
 |1=>(.int .i64 x.kind)
 |2=>(.int .i64 x.power)
 |3=>(.int .i64 x.sync)
 |4=>(.int .i64 x.ohm)
 |_=> .nilp
structure dR where
 amps:Int
 millis:Int
instance:Inhabited dR:=⟨⟨default,default⟩⟩
def dR.cell (x:dR):Nat→DV
 |0=>(.int .i64 x.amps)
 |1=>(.int .i64 x.millis)
 |_=> .nilp
structure Link where
 a:Int
 b:Int
 kind:Int
 most:Int
 ohm:Int
 trip:(List dR)
instance:Inhabited Link:=⟨⟨default,default,default,default,default,default⟩⟩
def Link.cell (x:Link):Nat→DV
 |0=>(.int .i64 x.a)
 |1=>(.int .i64 x.b)
 |2=>(.int .i64 x.kind)
 |3=>(.int .i64 x.most)
 |4=>(.int .i64 x.ohm)
 |5=>(bE none 2 dR.cell x.trip)
 |_=> .nilp
structure au where
 e0:Int
 e1:Int
instance:Inhabited au:=⟨⟨default,default⟩⟩
def au.cell (x:au):Nat→DV
 |0=>(.int .i64 x.e0)
 |1=>(.int .i64 x.e1)
 |_=> .nilp
structure aO where
 feeds:au
 power:Int
 paths:Int
instance:Inhabited aO:=⟨⟨default,default,default⟩⟩
def aO.cell (x:aO):Nat→DV
 |0=>(.int .i64 x.feeds.e0)
 |1=>(.int .i64 x.feeds.e1)
 |2=>(.int .i64 x.power)
 |3=>(.int .i64 x.paths)
 |_=> .nilp
structure aj where
 buses:Int
 sources:(List Source)
 links:(List Link)
 racks:(List aO)
instance:Inhabited aj:=⟨⟨default,default,default,default⟩⟩
def aj.cell (x:aj):Nat→DV
 |0=>(.int .i64 x.buses)
 |1=>(bE none 5 Source.cell x.sources)
 |2=>(bE none 6 Link.cell x.links)
 |3=>(bE none 4 aO.cell x.racks)
 |_=> .nilp
structure State where
 closed:(List Bool)
 locked:(List Bool)
 badLink:(List Bool)
 on_:(List Bool)
 badSource:(List Bool)
 earthed:(List Bool)
 badBus:(List Bool)
instance:Inhabited State:=⟨⟨default,default,default,default,default,default,default⟩⟩
def State.cell (x:State):Nat→DV
 |0=>(bE none 1 ah x.closed)
 |1=>(bE none 1 ah x.locked)
 |2=>(bE none 1 ah x.badLink)
 |3=>(bE none 1 ah x.on_)
 |4=>(bE none 1 ah x.badSource)
 |5=>(bE none 1 ah x.earthed)
 |6=>(bE none 1 ah x.badBus)
 |_=> .nilp
structure bC where
 l:(List Bool)
 n:Int
instance:Inhabited bC:=⟨⟨default,default⟩⟩
def bC.cell (x:bC):Nat→DV
 |0=>(bE none 1 ah x.l)
 |1=>(.int .i64 x.n)
 |_=> .nilp
structure ay where
 head:(List (Int × Int))
instance:Inhabited ay:=⟨⟨default⟩⟩
def ay.cell (x:ay):Nat→DV
 |0=> .nilp
 |_=> .nilp
structure af where
 buses:(List Int)
 sources:(List Int)
instance:Inhabited af:=⟨⟨default,default⟩⟩
def af.cell (x:af):Nat→DV
 |0=>(bE none 1 (aD .i64) x.buses)
 |1=>(bE none 1 (aD .i64) x.sources)
 |_=> .nilp
structure Part where
 kind:Int
 index:Int
instance:Inhabited Part:=⟨⟨default,default⟩⟩
def Part.cell (x:Part):Nat→DV
 |0=>(.int .i64 x.kind)
 |1=>(.int .i64 x.index)
 |_=> .nilp
structure aG where
 e0:Bool
 e1:Bool
instance:Inhabited aG:=⟨⟨default,default⟩⟩
def aG.cell (x:aG):Nat→DV
 |0=>(.bool x.e0)
 |1=>(.bool x.e1)
 |_=> .nilp
def af.ev (x:af):Nat→EV
 |0=> .row 3 1 x.buses.length (aC (aD .i64) x.buses)
 |1=> .row 3 1 x.sources.length (aC (aD .i64) x.sources)
 |_=> .d .nilp
def jB (p:aj):Int→Option (bS Int (Ex Unit Bool)):=
 fun i=>
 bif (decide (i<(p.links.length:Int)))then
 dQ ((0:Int)≤i∧i<(p.links.length:Int)) (
 bif (decide (20<(((at' p.links i.toNat).trip).length:Int)))then
 some (.done (.ret true))
 else
 some (.next (IntKind.wrap .i64 (i+1))))
 else
 some (.done (.brk ()))
def lW (p:aj):Option Bool:=
 bif (bif (bif (decide (60<(p.sources.length:Int)))then true else(decide (60<(p.links.length:Int))))then true else(decide (60<(p.racks.length:Int))))then
 some true
 else
 Option.bind (aL (jB p) FUEL (0)) fun o=>match o with
 | .ret v=>some v
 | .brk _=>
 some false
def aF (n:Int) (first:Int) (last:Int):Option Bool:=
 some (bif (decide (first≤n))then(decide (n≤last))else false)
def kY (p:aj):Option (Int × (List Source) × (List Link) × (List aO)):=
 some (p.buses,p.sources,p.links,p.racks)
def nO (p:aj):Option (Int × (List Source) × (List Link) × (List aO)):=
 some (p.buses,p.sources,p.links,p.racks)
def nY (p:aj):Option (Int × (List Source) × (List Link) × (List aO)):=
 some (p.buses,p.sources,p.links,p.racks)
def iG (x:Source) (x1:Int) (x11:(List Source)) (x12:(List Link)) (x13:(List aO)):Option Bool:=
 (aF x.bus 0 (IntKind.wrap .i64 (x1 - 1))).bind fun r_=>
 (bif gB [(r_,true)]then aF x.kind 1 3 else some default).bind fun r_1=>
 (bif gB [((bif r_ then r_1 else false),true)]then aF x.power 1 100000 else some default).bind fun r_2=>
 (bif gB [((bif (bif r_ then r_1 else false)then r_2 else false),true)]then aF x.sync 0 8 else some default).bind fun r_3=>
 (bif gB [((bif (bif (bif r_ then r_1 else false)then r_2 else false)then r_3 else false),true)]then aF x.ohm 10 100000 else some default).bind fun r_4=>
 some (bif (bif (bif (bif r_ then r_1 else false)then r_2 else false)then r_3 else false)then r_4 else false)
def lI (x:Source) (x1:Int) (x11:(List Source)) (x12:(List Link)) (x13:(List aO)):Option Bool:=
 (iG x x1 x11 x12 x13).bind fun r_=>
 some (!r_)
def gM (s_:(List Source)) (f_:Int) (f_1:(List Source)) (f_2:(List Link)) (f_3:(List aO)):Int→Option (bS Int (Ex Unit Int)):=
 fun t8=>
 bif (decide (t8<(s_.length:Int)))then
 (lI (at' s_ t8.toNat) f_ f_1 f_2 f_3).bind fun r_=>
 dQ ((0:Int)≤t8∧t8<(s_.length:Int)) (
 bif r_ then
 some (.done (.ret t8))
 else
 some (.next (IntKind.wrap .i64 (t8+1))))
 else
 some (.done (.brk ()))
def iT (s_:(List Source)) (f_:Int) (f_1:(List Source)) (f_2:(List Link)) (f_3:(List aO)):Option Int:=
 Option.bind (aL (gM s_ f_ f_1 f_2 f_3) FUEL (0)) fun o=>match o with
 | .ret v=>some v
 | .brk _=>
 some (-1)
def eH (s_:(List Source)) (f_:Int) (f_1:(List Source)) (f_2:(List Link)) (f_3:(List aO)):Option Bool:=
 (iT s_ f_ f_1 f_2 f_3).bind fun r_=>
 some (decide (0≤r_))
def kM (l:(List Source)) (most:Int) (right:Int) (right1:(List Source)) (right2:(List Link)) (right3:(List aO)):Option Bool:=
 (bif gB [((decide ((l.length:Int)≤most)),true)]then eH l right right1 right2 right3 else some default).bind fun r_=>
 some (bif (decide ((l.length:Int)≤most))then(!r_)else false)
def gY (x:Link):Int→Option (bS Int (Ex Unit Bool)):=
 fun t50=>
 bif (decide (t50<(x.trip.length:Int)))then
 dQ ((0:Int)≤t50∧t50<(x.trip.length:Int)) (
 (aF ((at' x.trip t50.toNat).amps) 1 1000000).bind fun r_5=>
 (bif gB [((!r_5),false)]then aF ((at' x.trip t50.toNat).millis) 1 100000 else some default).bind fun r_6=>
 dQ ((gB [((decide (0<t50)),true),((bif (!r_5)then true else(!r_6)),false)]=true→(0:Int)≤(IntKind.wrap .i64 (t50 - 1))∧(IntKind.wrap .i64 (t50 - 1))<(x.trip.length:Int))∧(gB [((decide (((at' x.trip t50.toNat).amps)≤((at' x.trip ((IntKind.wrap .i64 (t50 - 1)).toNat)).amps))),false),((decide (0<t50)),true),((bif (!r_5)then true else(!r_6)),false)]=true→(0:Int)≤(IntKind.wrap .i64 (t50 - 1))∧(IntKind.wrap .i64 (t50 - 1))<(x.trip.length:Int))) (
 bif (bif (bif (!r_5)then true else(!r_6))then true else(bif (decide (0<t50))then(bif (decide (((at' x.trip t50.toNat).amps)≤((at' x.trip ((IntKind.wrap .i64 (t50 - 1)).toNat)).amps)))then true else(decide (((at' x.trip ((IntKind.wrap .i64 (t50 - 1)).toNat)).millis)≤((at' x.trip t50.toNat).millis))))else false))then
 some (.done (.ret false))
 else
 some (.next (IntKind.wrap .i64 (t50+1)))))
 else
 some (.done (.brk ()))
def jI (x:Link) (x1:Int) (x11:(List Source)) (x12:(List Link)) (x13:(List aO)):Option Bool:=
 (aF x.a 0 (IntKind.wrap .i64 (x1 - 1))).bind fun r_=>
 (bif gB [((!r_),false)]then aF x.b 0 (IntKind.wrap .i64 (x1 - 1))else some default).bind fun r_1=>
 (bif gB [((bif (bif (!r_)then true else(!r_1))then true else(decide (x.a=x.b))),false)]then aF x.kind 1 3 else some default).bind fun r_2=>
 (bif gB [((bif (bif (bif (!r_)then true else(!r_1))then true else(decide (x.a=x.b)))then true else(!r_2)),false)]then aF x.most 1 100000 else some default).bind fun r_3=>
 (bif gB [((bif (bif (bif (bif (!r_)then true else(!r_1))then true else(decide (x.a=x.b)))then true else(!r_2))then true else(!r_3)),false)]then aF x.ohm 10 100000 else some default).bind fun r_4=>
 bif (bif (bif (bif (bif (bif (!r_)then true else(!r_1))then true else(decide (x.a=x.b)))then true else(!r_2))then true else(!r_3))then true else(!r_4))then
 some false
 else
 Option.bind (aL (gY x) FUEL (0)) fun o=>match o with
 | .ret v=>some v
 | .brk _=>
 some (bif (decide ((x.trip.length:Int)≤6))then(bif (decide ((x.trip.length:Int)=0))then true else(decide (x.kind=3)))else false)
def jh (x:Link) (x1:Int) (x11:(List Source)) (x12:(List Link)) (x13:(List aO)):Option Bool:=
 (jI x x1 x11 x12 x13).bind fun r_=>
 some (!r_)
def fK (s_:(List Link)) (f_:Int) (f_1:(List Source)) (f_2:(List Link)) (f_3:(List aO)):Int→Option (bS Int (Ex Unit Int)):=
 fun t8=>
 bif (decide (t8<(s_.length:Int)))then
 (jh (at' s_ t8.toNat) f_ f_1 f_2 f_3).bind fun r_=>
 dQ ((0:Int)≤t8∧t8<(s_.length:Int)) (
 bif r_ then
 some (.done (.ret t8))
 else
 some (.next (IntKind.wrap .i64 (t8+1))))
 else
 some (.done (.brk ()))
def gT (s_:(List Link)) (f_:Int) (f_1:(List Source)) (f_2:(List Link)) (f_3:(List aO)):Option Int:=
 Option.bind (aL (fK s_ f_ f_1 f_2 f_3) FUEL (0)) fun o=>match o with
 | .ret v=>some v
 | .brk _=>
 some (-1)
def dD (s_:(List Link)) (f_:Int) (f_1:(List Source)) (f_2:(List Link)) (f_3:(List aO)):Option Bool:=
 (gT s_ f_ f_1 f_2 f_3).bind fun r_=>
 some (decide (0≤r_))
def jH (l:(List Link)) (most:Int) (right:Int) (right1:(List Source)) (right2:(List Link)) (right3:(List aO)):Option Bool:=
 (bif gB [((decide ((l.length:Int)≤most)),true)]then dD l right right1 right2 right3 else some default).bind fun r_=>
 some (bif (decide ((l.length:Int)≤most))then(!r_)else false)
def j4 (x:aO):Option Int:=
 bif (decide (x.feeds.e1=(-1)))then
 some 1
 else
 some 2
def jl (x:aO) (x1:Int) (x11:(List Source)) (x12:(List Link)) (x13:(List aO)):Option Bool:=
 (aF x.feeds.e0 0 (IntKind.wrap .i64 (x1 - 1))).bind fun r_=>
 (bif gB [(r_,true)]then aF x.feeds.e1 (-1) (IntKind.wrap .i64 (x1 - 1))else some default).bind fun r_1=>
 (bif gB [((bif (bif r_ then r_1 else false)then(!decide (x.feeds.e0=x.feeds.e1))else false),true)]then aF x.power 1 100000 else some default).bind fun r_2=>
 (bif gB [((bif (bif (bif r_ then r_1 else false)then(!decide (x.feeds.e0=x.feeds.e1))else false)then r_2 else false),true)]then j4 x else some default).bind fun r_3=>
 (bif gB [((bif (bif (bif r_ then r_1 else false)then(!decide (x.feeds.e0=x.feeds.e1))else false)then r_2 else false),true)]then aF x.paths 0 r_3 else some default).bind fun r_4=>
 some (bif (bif (bif (bif r_ then r_1 else false)then(!decide (x.feeds.e0=x.feeds.e1))else false)then r_2 else false)then r_4 else false)
def jw (x:aO) (x1:Int) (x11:(List Source)) (x12:(List Link)) (x13:(List aO)):Option Bool:=
 (jl x x1 x11 x12 x13).bind fun r_=>
 some (!r_)
def fI (s_:(List aO)) (f_:Int) (f_1:(List Source)) (f_2:(List Link)) (f_3:(List aO)):Int→Option (bS Int (Ex Unit Int)):=
 fun t8=>
 bif (decide (t8<(s_.length:Int)))then
 (jw (⟨((at' s_ t8.toNat).feeds),(at' s_ t8.toNat).power,(at' s_ t8.toNat).paths⟩:aO) f_ f_1 f_2 f_3).bind fun r_=>
 dQ ((0:Int)≤t8∧t8<(s_.length:Int)) (
 bif r_ then
 some (.done (.ret t8))
 else
 some (.next (IntKind.wrap .i64 (t8+1))))
 else
 some (.done (.brk ()))
def gQ (s_:(List aO)) (f_:Int) (f_1:(List Source)) (f_2:(List Link)) (f_3:(List aO)):Option Int:=
 Option.bind (aL (fI s_ f_ f_1 f_2 f_3) FUEL (0)) fun o=>match o with
 | .ret v=>some v
 | .brk _=>
 some (-1)
def dF (s_:(List aO)) (f_:Int) (f_1:(List Source)) (f_2:(List Link)) (f_3:(List aO)):Option Bool:=
 (gQ s_ f_ f_1 f_2 f_3).bind fun r_=>
 some (decide (0≤r_))
def jK (l:(List aO)) (most:Int) (right:Int) (right1:(List Source)) (right2:(List Link)) (right3:(List aO)):Option Bool:=
 (bif gB [((decide ((l.length:Int)≤most)),true)]then dF l right right1 right2 right3 else some default).bind fun r_=>
 some (bif (decide ((l.length:Int)≤most))then(!r_)else false)
def fM (p:aj):Option Int:=
 (aF p.buses 1 24).bind fun r_=>
 bif (!r_)then
 some 10
 else
 (kY p).bind fun r_1=>
 (kM p.sources 8 r_1.1 r_1.2.1 r_1.2.2.1 r_1.2.2.2).bind fun r_2=>
 bif (!r_2)then
 some 11
 else
 (nO p).bind fun r_3=>
 (jH p.links 40 r_3.1 r_3.2.1 r_3.2.2.1 r_3.2.2.2).bind fun r_4=>
 bif (!r_4)then
 some 12
 else
 (nY p).bind fun r_5=>
 (jK p.racks 24 r_5.1 r_5.2.1 r_5.2.2.1 r_5.2.2.2).bind fun r_6=>
 bif (!r_6)then
 some 13
 else
 some 0
def eG (p:aj) (s_:State):Int→Option (bS Int (Ex Unit Int)):=
 fun t55=>
 bif (decide (t55<([(⟨s_.closed,(p.links.length:Int)⟩:bC),(⟨s_.locked,(p.links.length:Int)⟩:bC),(⟨s_.badLink,(p.links.length:Int)⟩:bC),(⟨s_.on_,(p.sources.length:Int)⟩:bC),(⟨s_.badSource,(p.sources.length:Int)⟩:bC),(⟨s_.earthed,p.buses⟩:bC),(⟨s_.badBus,p.buses⟩:bC)].length:Int)))then
 dQ ((0:Int)≤t55∧t55<([(⟨s_.closed,(p.links.length:Int)⟩:bC),(⟨s_.locked,(p.links.length:Int)⟩:bC),(⟨s_.badLink,(p.links.length:Int)⟩:bC),(⟨s_.on_,(p.sources.length:Int)⟩:bC),(⟨s_.badSource,(p.sources.length:Int)⟩:bC),(⟨s_.earthed,p.buses⟩:bC),(⟨s_.badBus,p.buses⟩:bC)].length:Int)) (
 bif (!decide ((((at' [(⟨s_.closed,(p.links.length:Int)⟩:bC),(⟨s_.locked,(p.links.length:Int)⟩:bC),(⟨s_.badLink,(p.links.length:Int)⟩:bC),(⟨s_.on_,(p.sources.length:Int)⟩:bC),(⟨s_.badSource,(p.sources.length:Int)⟩:bC),(⟨s_.earthed,p.buses⟩:bC),(⟨s_.badBus,p.buses⟩:bC)] t55.toNat).l).length:Int)=((at' [(⟨s_.closed,(p.links.length:Int)⟩:bC),(⟨s_.locked,(p.links.length:Int)⟩:bC),(⟨s_.badLink,(p.links.length:Int)⟩:bC),(⟨s_.on_,(p.sources.length:Int)⟩:bC),(⟨s_.badSource,(p.sources.length:Int)⟩:bC),(⟨s_.earthed,p.buses⟩:bC),(⟨s_.badBus,p.buses⟩:bC)] t55.toNat).n)))then
 some (.done (.ret 9))
 else
 some (.next (IntKind.wrap .i64 (t55+1))))
 else
 some (.done (.brk ()))
def eO (p:aj) (s_:State):Int→Option (bS Int (Ex Unit Int)):=
 fun t69=>
 bif (decide (t69<(p.links.length:Int)))then
 dQ ((0:Int)≤t69∧t69<(p.links.length:Int)) (
 dQ ((gB [((decide (((at' p.links t69.toNat).kind)=1)),true)]=true→(0:Int)≤t69∧t69<(s_.closed.length:Int))∧(gB [((!(at' s_.closed t69.toNat)),false),((decide (((at' p.links t69.toNat).kind)=1)),true)]=true→(0:Int)≤t69∧t69<(s_.locked.length:Int))) (
 bif (bif (decide (((at' p.links t69.toNat).kind)=1))then(bif (!(at' s_.closed t69.toNat))then true else(at' s_.locked t69.toNat))else false)then
 some (.done (.ret 9))
 else
 some (.next (IntKind.wrap .i64 (t69+1)))))
 else
 some (.done (.brk ()))
def aW (p:aj) (s_:State):Option Int:=
 (fM p).bind fun r_=>
 bif (!decide (r_=0))then
 some r_
 else
 Option.bind (aL (eG p s_) FUEL (0)) fun o=>match o with
 | .ret v=>some v
 | .brk _=>
 Option.bind (aL (eO p s_) FUEL (0)) fun o=>match o with
 | .ret v=>some v
 | .brk _=>
 some 0
def gq (p:aj) (s_:State):Option (Int × (List Source) × (List Link) × (List aO) × (List Bool) × (List Bool) × (List Bool) × (List Bool) × (List Bool) × (List Bool) × (List Bool)):=
 some (p.buses,p.sources,p.links,p.racks,s_.closed,s_.locked,s_.badLink,s_.on_,s_.badSource,s_.earthed,s_.badBus)
def dh (g:ay):Int→Option (bS Int (Ex Unit Int)):=
 fun x1=>
 bif (!((aJ bB x1 g.head).isSome))then
 some (.done (.ret x1))
 else
 some (.next ((aJ bB x1 g.head).getD 0))
def aR (g:ay) (x:Int):Option Int:=
 Option.bind (aL (dh g) FUEL (x)) fun o=>match o with
 | .ret v=>some v
 | .brk _=>none
def fQ (g:ay) (a:Int) (b:Int):Option (List (Int × Int)):=
 (aR g a).bind fun r_=>
 (aR g b).bind fun r_1=>
 bif (!decide (r_=r_1))then
 some (dS bB r_ r_1 g.head)
 else
 some g.head
def fe (x22:Int) (x221:Int) (x222:Int) (x223:Int) (x224:Int) (x225:(List dR)) (o_:ay):Option ay:=
 (fQ o_ x22 x221).bind fun r_=>
 some (⟨r_⟩:ay)
def bN (x12:(List Link)) (x2:(List Bool)) (x22:(List Bool)) (x26:(List Bool)):((List (Int × Int)) × Int)→Option (bS ((List (Int × Int)) × Int) (Ex (List (Int × Int)) ay)):=
 fun zz=>match zz with
 |(o50,t9)=>
 bif (decide (t9<(x12.length:Int)))then
 dQ ((0:Int)≤t9∧t9<(x12.length:Int)) (
 bif (bif (bif (bif (at' x2 t9.toNat)then(!(at' x22 t9.toNat))else false)then(!(at' x26 (((at' x12 t9.toNat).a).toNat)))else false)then(!(at' x26 (((at' x12 t9.toNat).b).toNat)))else false)then
 (fe ((at' x12 t9.toNat).a) ((at' x12 t9.toNat).b) ((at' x12 t9.toNat).kind) ((at' x12 t9.toNat).most) ((at' x12 t9.toNat).ohm) ((at' x12 t9.toNat).trip) (⟨o50⟩:ay)).bind fun r_=>
 dQ (((0:Int)≤t9∧t9<(x2.length:Int))∧(gB [((at' x2 t9.toNat),true)]=true→(0:Int)≤t9∧t9<(x22.length:Int))∧(gB [((bif (at' x2 t9.toNat)then(!(at' x22 t9.toNat))else false),true)]=true→(0:Int)≤(at' x12 t9.toNat).a∧(at' x12 t9.toNat).a<(x26.length:Int))∧(gB [((bif (bif (at' x2 t9.toNat)then(!(at' x22 t9.toNat))else false)then(!(at' x26 (((at' x12 t9.toNat).a).toNat)))else false),true)]=true→(0:Int)≤(at' x12 t9.toNat).b∧(at' x12 t9.toNat).b<(x26.length:Int))) (
 some (.next (r_.head,(IntKind.wrap .i64 (t9+1)))))
 else
 dQ (((0:Int)≤t9∧t9<(x2.length:Int))∧(gB [((at' x2 t9.toNat),true)]=true→(0:Int)≤t9∧t9<(x22.length:Int))∧(gB [((bif (at' x2 t9.toNat)then(!(at' x22 t9.toNat))else false),true)]=true→(0:Int)≤(at' x12 t9.toNat).a∧(at' x12 t9.toNat).a<(x26.length:Int))∧(gB [((bif (bif (at' x2 t9.toNat)then(!(at' x22 t9.toNat))else false)then(!(at' x26 (((at' x12 t9.toNat).a).toNat)))else false),true)]=true→(0:Int)≤(at' x12 t9.toNat).b∧(at' x12 t9.toNat).b<(x26.length:Int))) (
 some (.next (o50,(IntKind.wrap .i64 (t9+1))))))
 else
 some (.done (.brk o50))
def iB (x1:Int) (x11:(List Source)) (x12:(List Link)) (x13:(List aO)) (x2:(List Bool)) (x21:(List Bool)) (x22:(List Bool)) (x23:(List Bool)) (x24:(List Bool)) (x25:(List Bool)) (x26:(List Bool)) (o_:ay):Option ay:=
 Option.bind (aL (bN x12 x2 x22 x26) FUEL (o_.head,0)) fun o=>match o with
 | .ret v=>some v
 | .brk o501=>
 some (⟨o501⟩:ay)
def aT (p:aj) (s_:State) (r_1:ay):((List af) × (List (Int × Int)) × Int)→Option (bS ((List af) × (List (Int × Int)) × Int) (Ex ((List af) × (List (Int × Int))) (List af))):=
 fun zz=>match zz with
 |(out,at_,t32)=>
 bif (decide (t32<p.buses))then
 dQ ((0:Int)≤t32∧t32<(s_.badBus.length:Int)) (
 bif (at' s_.badBus t32.toNat)then
 some (.next (out,at_,(IntKind.wrap .i64 (t32+1))))
 else
 (aR r_1 t32).bind fun r_2=>
 bif (!((aJ bB r_2 at_).isSome))then
 dQ (((out.length+[(⟨([]:List Int),([]:List Int)⟩:af)].length)*48≤140737488355328)∧(out.length+[(⟨([]:List Int),([]:List Int)⟩:af)].length≤4611686018427387904)) (
 dQ (((0:Int)≤((aJ bB r_2 (dS bB r_2 (out.length:Int) at_)).getD 0)∧((aJ bB r_2 (dS bB r_2 (out.length:Int) at_)).getD 0)<((out++[(⟨([]:List Int),([]:List Int)⟩:af)]).length:Int))∧((((at' (out++[(⟨([]:List Int),([]:List Int)⟩:af)]) (((aJ bB r_2 (dS bB r_2 (out.length:Int) at_)).getD 0).toNat)).buses).length+[t32].length)*8≤140737488355328)∧(((at' (out++[(⟨([]:List Int),([]:List Int)⟩:af)]) (((aJ bB r_2 (dS bB r_2 (out.length:Int) at_)).getD 0).toNat)).buses).length+[t32].length≤4611686018427387904)) (
 some (.next (((out++[(⟨([]:List Int),([]:List Int)⟩:af)]).set (((aJ bB r_2 (dS bB r_2 (out.length:Int) at_)).getD 0).toNat) (⟨(((at' (out++[(⟨([]:List Int),([]:List Int)⟩:af)]) (((aJ bB r_2 (dS bB r_2 (out.length:Int) at_)).getD 0).toNat)).buses)++[t32]),(at' (out++[(⟨([]:List Int),([]:List Int)⟩:af)]) (((aJ bB r_2 (dS bB r_2 (out.length:Int) at_)).getD 0).toNat)).sources⟩:af)),(dS bB r_2 (out.length:Int) at_),(IntKind.wrap .i64 (t32+1))))))
 else
 dQ (((0:Int)≤((aJ bB r_2 at_).getD 0)∧((aJ bB r_2 at_).getD 0)<(out.length:Int))∧((((at' out (((aJ bB r_2 at_).getD 0).toNat)).buses).length+[t32].length)*8≤140737488355328)∧(((at' out (((aJ bB r_2 at_).getD 0).toNat)).buses).length+[t32].length≤4611686018427387904)) (
 some (.next ((out.set (((aJ bB r_2 at_).getD 0).toNat) (⟨(((at' out (((aJ bB r_2 at_).getD 0).toNat)).buses)++[t32]),(at' out (((aJ bB r_2 at_).getD 0).toNat)).sources⟩:af)),at_,(IntKind.wrap .i64 (t32+1))))))
 else
 some (.done (.brk (out,at_)))
def aU (p:aj) (s_:State) (r_1:ay) (at_1:(List (Int × Int))):((List af) × Int)→Option (bS ((List af) × Int) (Ex (List af) (List af))):=
 fun zz=>match zz with
 |(out2,t78)=>
 bif (decide (t78<(p.sources.length:Int)))then
 dQ ((0:Int)≤t78∧t78<(p.sources.length:Int)) (
 dQ (((0:Int)≤t78∧t78<(s_.on_.length:Int))∧(gB [((at' s_.on_ t78.toNat),true)]=true→(0:Int)≤t78∧t78<(s_.badSource.length:Int))∧(gB [((bif (at' s_.on_ t78.toNat)then(!(at' s_.badSource t78.toNat))else false),true)]=true→(0:Int)≤(at' p.sources t78.toNat).bus∧(at' p.sources t78.toNat).bus<(s_.badBus.length:Int))) (
 bif (bif (bif (at' s_.on_ t78.toNat)then(!(at' s_.badSource t78.toNat))else false)then(!(at' s_.badBus (((at' p.sources t78.toNat).bus).toNat)))else false)then
 (aR r_1 ((at' p.sources t78.toNat).bus)).bind fun r_3=>
 dQ (((0:Int)≤((aJ bB r_3 at_1).getD 0)∧((aJ bB r_3 at_1).getD 0)<(out2.length:Int))∧((((at' out2 (((aJ bB r_3 at_1).getD 0).toNat)).sources).length+[t78].length)*8≤140737488355328)∧(((at' out2 (((aJ bB r_3 at_1).getD 0).toNat)).sources).length+[t78].length≤4611686018427387904)) (
 some (.next ((out2.set (((aJ bB r_3 at_1).getD 0).toNat) (⟨(at' out2 (((aJ bB r_3 at_1).getD 0).toNat)).buses,(((at' out2 (((aJ bB r_3 at_1).getD 0).toNat)).sources)++[t78])⟩:af)),(IntKind.wrap .i64 (t78+1)))))
 else
 some (.next (out2,(IntKind.wrap .i64 (t78+1))))))
 else
 some (.done (.brk out2))
def bZ (p:aj) (s_:State):Option (List af):=
 (gq p s_).bind fun r_=>
 (iB r_.1 r_.2.1 r_.2.2.1 r_.2.2.2.1 r_.2.2.2.2.1 r_.2.2.2.2.2.1 r_.2.2.2.2.2.2.1 r_.2.2.2.2.2.2.2.1 r_.2.2.2.2.2.2.2.2.1 r_.2.2.2.2.2.2.2.2.2.1 r_.2.2.2.2.2.2.2.2.2.2 (⟨([]:(List (Int × Int)))⟩:ay)).bind fun r_1=>
 Option.bind (aL (aT p s_ r_1) FUEL (([]:List af),([]:(List (Int × Int))),0)) fun o=>match o with
 | .ret v=>some v
 | .brk (out1,at_1)=>
 Option.bind (aL (aU p s_ r_1 at_1) FUEL (out1,0)) fun o=>match o with
 | .ret v=>some v
 | .brk out3=>
 some out3
def eU (p:aj) (s_:State):Option ((List af) × Int):=
 (aW p s_).bind fun r_=>
 bif (!decide (r_=0))then
 some (([]:List af),r_)
 else
 (bZ p s_).bind fun r_1=>
 some (r_1,0)
def o8 (s_:(List Bool)) (s_nn:Bool):Option (List Bool):=
 bif (!s_nn)then
 some ([]:List Bool)
 else
 dQ (((([]:List Bool).length+s_.length)*1≤140737488355328)∧(([]:List Bool).length+s_.length≤4611686018427387904)) (
 some (([]:List Bool)++s_))
def cO (s:(List Bool)):Option (List Bool):=o8 s true
def qi (s_:State):Option State:=
 dQ ((0:Int)≤0∧0<(7:Int)) (
 (cO s_.closed).bind fun r_=>
 dQ ((0:Int)≤1∧1<(7:Int)) (
 (cO s_.locked).bind fun r_1=>
 dQ ((0:Int)≤2∧2<(7:Int)) (
 (cO s_.badLink).bind fun r_2=>
 dQ ((0:Int)≤3∧3<(7:Int)) (
 (cO s_.on_).bind fun r_3=>
 dQ ((0:Int)≤4∧4<(7:Int)) (
 (cO s_.badSource).bind fun r_4=>
 dQ ((0:Int)≤5∧5<(7:Int)) (
 (cO s_.earthed).bind fun r_5=>
 dQ ((0:Int)≤6∧6<(7:Int)) (
 (cO s_.badBus).bind fun r_6=>
 some (⟨r_,r_1,r_2,r_3,r_4,r_5,r_6⟩:State))))))))
def qg (p:aj) (s_:State) (x:Part) (is:Bool):Option (State × Int):=
 (aW p s_).bind fun r_=>
 bif (!decide (r_=0))then
 some ((⟨([]:List Bool),([]:List Bool),([]:List Bool),([]:List Bool),([]:List Bool),([]:List Bool),([]:List Bool)⟩:State),r_)
 else
 (qi s_).bind fun r_1=>
 bif (bB x.kind 1)then
 (aF x.index 0 (IntKind.wrap .i64 ((r_1.badBus.length:Int) - 1))).bind fun r_2=>
 bif (!r_2)then
 some ((⟨([]:List Bool),([]:List Bool),([]:List Bool),([]:List Bool),([]:List Bool),([]:List Bool),([]:List Bool)⟩:State),14)
 else
 dQ ((0:Int)≤x.index∧x.index<(r_1.badBus.length:Int)) (
 some ((⟨r_1.closed,r_1.locked,r_1.badLink,r_1.on_,r_1.badSource,r_1.earthed,(r_1.badBus.set x.index.toNat is)⟩:State),0))
 else
 bif (bB x.kind 2)then
 (aF x.index 0 (IntKind.wrap .i64 ((r_1.badSource.length:Int) - 1))).bind fun r_3=>
 bif (!r_3)then
 some ((⟨([]:List Bool),([]:List Bool),([]:List Bool),([]:List Bool),([]:List Bool),([]:List Bool),([]:List Bool)⟩:State),14)
 else
 dQ ((0:Int)≤x.index∧x.index<(r_1.badSource.length:Int)) (
 some ((⟨r_1.closed,r_1.locked,r_1.badLink,r_1.on_,(r_1.badSource.set x.index.toNat is),r_1.earthed,r_1.badBus⟩:State),0))
 else
 bif (bB x.kind 3)then
 (aF x.index 0 (IntKind.wrap .i64 ((r_1.badLink.length:Int) - 1))).bind fun r_4=>
 bif (!r_4)then
 some ((⟨([]:List Bool),([]:List Bool),([]:List Bool),([]:List Bool),([]:List Bool),([]:List Bool),([]:List Bool)⟩:State),14)
 else
 dQ ((0:Int)≤x.index∧x.index<(r_1.badLink.length:Int)) (
 some ((⟨r_1.closed,r_1.locked,(r_1.badLink.set x.index.toNat is),r_1.on_,r_1.badSource,r_1.earthed,r_1.badBus⟩:State),0))
 else
 (aF x.index 0 (-1)).bind fun r_5=>
 bif (!r_5)then
 some ((⟨([]:List Bool),([]:List Bool),([]:List Bool),([]:List Bool),([]:List Bool),([]:List Bool),([]:List Bool)⟩:State),14)
 else
 none
def mH (p:aj) (s_:State) (x:Part):Option (State × Int):=
 (qg p s_ x true).bind fun r_=>
 some (r_.1,r_.2)
def bU (x y:au):Int:=if x.e0<y.e0 then -1 else if y.e0<x.e0 then 1 else if x.e1<y.e1 then -1 else if y.e1<x.e1 then 1 else 0
def lY (s:(List au)):Option (List au):=match s with
 |[]=>some []
 |x::xs=>bif decide ((x::xs).length<4611686018427387904)then some ((x::xs).mergeSort fun x y=> !decide (bU y x<0))else none
def rP (p:aj) (r_1:(List af)) (t24:Int) (t31:Int):((List au) × Int)→Option (bS ((List au) × Int) (Ex (List au) (bS ((List au) × Int) (Ex (List au) (bS ((List au) × Int) (Ex (List au) ((List au) × Int))))))):=
 fun zz=>match zz with
 |(out4,t42)=>
 bif (decide (t42<(((((at' r_1 t24.toNat).sources).length - ((IntKind.wrap .i64 (t31+1)).toNat)):Nat):Int)))then
 dQ ((0:Int)≤t42∧t42<((((at' r_1 t24.toNat).sources).drop ((IntKind.wrap .i64 (t31+1)).toNat)).length:Int)) (
 dQ (((0:Int)≤(at' ((at' r_1 t24.toNat).sources) t31.toNat)∧(at' ((at' r_1 t24.toNat).sources) t31.toNat)<(p.sources.length:Int))∧(gB [((decide (((at' p.sources ((at' ((at' r_1 t24.toNat).sources) t31.toNat).toNat)).sync)=0)),false)]=true→(0:Int)≤(at' ((at' r_1 t24.toNat).sources) t31.toNat)∧(at' ((at' r_1 t24.toNat).sources) t31.toNat)<(p.sources.length:Int))∧(gB [((decide (((at' p.sources ((at' ((at' r_1 t24.toNat).sources) t31.toNat).toNat)).sync)=0)),false)]=true→(0:Int)≤(at' (((at' r_1 t24.toNat).sources).drop ((IntKind.wrap .i64 (t31+1)).toNat)) t42.toNat)∧(at' (((at' r_1 t24.toNat).sources).drop ((IntKind.wrap .i64 (t31+1)).toNat)) t42.toNat)<(p.sources.length:Int))) (
 bif (bif (decide (((at' p.sources ((at' ((at' r_1 t24.toNat).sources) t31.toNat).toNat)).sync)=0))then true else(!decide (((at' p.sources ((at' ((at' r_1 t24.toNat).sources) t31.toNat).toNat)).sync)=((at' p.sources ((at' (((at' r_1 t24.toNat).sources).drop ((IntKind.wrap .i64 (t31+1)).toNat)) t42.toNat).toNat)).sync))))then
 dQ (((out4.length+[(⟨(at' ((at' r_1 t24.toNat).sources) t31.toNat),(at' (((at' r_1 t24.toNat).sources).drop ((IntKind.wrap .i64 (t31+1)).toNat)) t42.toNat)⟩:au)].length)*16≤140737488355328)∧(out4.length+[(⟨(at' ((at' r_1 t24.toNat).sources) t31.toNat),(at' (((at' r_1 t24.toNat).sources).drop ((IntKind.wrap .i64 (t31+1)).toNat)) t42.toNat)⟩:au)].length≤4611686018427387904)) (
 some (.next ((out4++[(⟨(at' ((at' r_1 t24.toNat).sources) t31.toNat),(at' (((at' r_1 t24.toNat).sources).drop ((IntKind.wrap .i64 (t31+1)).toNat)) t42.toNat)⟩:au)]),(IntKind.wrap .i64 (t42+1)))))
 else
 some (.next (out4,(IntKind.wrap .i64 (t42+1))))))
 else
 some (.done (.brk out4))
def rO (p:aj) (r_1:(List af)) (t24:Int):((List au) × Int)→Option (bS ((List au) × Int) (Ex (List au) (bS ((List au) × Int) (Ex (List au) ((List au) × Int))))):=
 fun zz=>match zz with
 |(out2,t31)=>
 bif (decide (t31<(((at' r_1 t24.toNat).sources).length:Int)))then
 dQ ((0:Int)≤t31∧t31<(((at' r_1 t24.toNat).sources).length:Int)) (
 dQ ((0:Int)≤(IntKind.wrap .i64 (t31+1))∧(IntKind.wrap .i64 (t31+1))≤(((at' r_1 t24.toNat).sources).length:Int)) (
 Option.bind (aL (rP p r_1 t24 t31) FUEL (out2,0)) fun o=>match o with
 | .ret v=>some v
 | .brk out5=>
 some (.next (out5,(IntKind.wrap .i64 (t31+1))))))
 else
 some (.done (.brk out2))
def sG (p:aj) (r_1:(List af)):((List au) × Int)→Option (bS ((List au) × Int) (Ex (List au) ((List au) × Int))):=
 fun zz=>match zz with
 |(out,t24)=>
 bif (decide (t24<(r_1.length:Int)))then
 dQ ((0:Int)≤t24∧t24<(r_1.length:Int)) (
 Option.bind (aL (rO p r_1 t24) FUEL (out,0)) fun o=>match o with
 | .ret v=>some v
 | .brk out3=>
 some (.next (out3,(IntKind.wrap .i64 (t24+1)))))
 else
 some (.done (.brk out))
def oz (p:aj) (s_:State):Option ((List au) × Int):=
 (aW p s_).bind fun r_=>
 bif (!decide (r_=0))then
 some (([]:List au),r_)
 else
 (bZ p s_).bind fun r_1=>
 Option.bind (aL (sG p r_1) FUEL (([]:List au),0)) fun o=>match o with
 | .ret v=>some v
 | .brk out1=>
 (lY out1).bind fun r_2=>
 dQ (out1.length=r_2.length) (
 some (r_2,0))
def oJ:Option aj:=
 some (⟨3,[(⟨0,1,500,0,20⟩:Source),(⟨2,2,300,0,40⟩:Source)],[(⟨0,1,3,400,10,[(⟨1000,400⟩:dR),(⟨5000,50⟩:dR)]⟩:Link),(⟨1,2,3,400,10,([]:List dR)⟩:Link)],[(⟨(⟨1,(-1)⟩:au),100,1⟩:aO)]⟩:aj)
def bW (n:Int):Option (List Bool):=
 dQ (((0:Int)≤n)∧((1:Int)*n≤281474976710656)∧((n:Int)≤9223372036854775807)) (
 some (List.replicate n.toNat (false:Bool)))
def sj (p:aj):((List Bool) × Int)→Option (bS ((List Bool) × Int) (Ex (List Bool) (State × Int))):=
 fun zz=>match zz with
 |(s0,t50)=>
 bif (decide (t50<(p.links.length:Int)))then
 dQ ((0:Int)≤t50∧t50<(p.links.length:Int)) (
 dQ ((0:Int)≤t50∧t50<(s0.length:Int)) (
 some (.next ((s0.set t50.toNat (decide (((at' p.links t50.toNat).kind)=1))),(IntKind.wrap .i64 (t50+1))))))
 else
 some (.done (.brk s0))
def oF (p:aj):Option (State × Int):=
 (fM p).bind fun r_=>
 bif (!decide (r_=0))then
 some ((⟨([]:List Bool),([]:List Bool),([]:List Bool),([]:List Bool),([]:List Bool),([]:List Bool),([]:List Bool)⟩:State),r_)
 else
 (bW (p.links.length:Int)).bind fun r_1=>
 (bW (p.links.length:Int)).bind fun r_2=>
 (bW (p.links.length:Int)).bind fun r_3=>
 (bW (p.sources.length:Int)).bind fun r_4=>
 (bW (p.sources.length:Int)).bind fun r_5=>
 (bW p.buses).bind fun r_6=>
 (bW p.buses).bind fun r_7=>
 Option.bind (aL (sj p) FUEL (r_1,0)) fun o=>match o with
 | .ret v=>some v
 | .brk s01=>
 some ((⟨s01,r_2,r_3,r_4,r_5,r_6,r_7⟩:State),0)
def gH (r_1:(List af)) (t25:Int):((List Bool) × Int)→Option (bS ((List Bool) × Int) (Ex (List Bool) (bS ((List Bool) × Int) (Ex (List Bool) ((List Bool) × Int))))):=
 fun zz=>match zz with
 |(out2,t32)=>
 bif (decide (t32<(((at' r_1 t25.toNat).buses).length:Int)))then
 dQ ((0:Int)≤t32∧t32<(((at' r_1 t25.toNat).buses).length:Int)) (
 dQ ((0:Int)≤(at' ((at' r_1 t25.toNat).buses) t32.toNat)∧(at' ((at' r_1 t25.toNat).buses) t32.toNat)<(out2.length:Int)) (
 some (.next ((out2.set ((at' ((at' r_1 t25.toNat).buses) t32.toNat).toNat) (decide (0<(((at' r_1 t25.toNat).sources).length:Int)))),(IntKind.wrap .i64 (t32+1))))))
 else
 some (.done (.brk out2))
def gI (r_1:(List af)):((List Bool) × Int)→Option (bS ((List Bool) × Int) (Ex (List Bool) ((List Bool) × Int))):=
 fun zz=>match zz with
 |(out,t25)=>
 bif (decide (t25<(r_1.length:Int)))then
 dQ ((0:Int)≤t25∧t25<(r_1.length:Int)) (
 Option.bind (aL (gH r_1 t25) FUEL (out,0)) fun o=>match o with
 | .ret v=>some v
 | .brk out3=>
 some (.next (out3,(IntKind.wrap .i64 (t25+1)))))
 else
 some (.done (.brk out))
def jA (p:aj) (s_:State):Option ((List Bool) × Int):=
 (aW p s_).bind fun r_=>
 bif (!decide (r_=0))then
 some (([]:List Bool),r_)
 else
 dQ (((0:Int)≤p.buses)∧((1:Int)*p.buses≤281474976710656)∧((p.buses:Int)≤9223372036854775807)) (
 (bZ p s_).bind fun r_1=>
 Option.bind (aL (gI r_1) FUEL ((List.replicate p.buses.toNat (false:Bool)),0)) fun o=>match o with
 | .ret v=>some v
 | .brk out1=>
 some (out1,0))
def yA (p:aj) (r_:((List Bool) × Int)):((List aG) × Int)→Option (bS ((List aG) × Int) (Ex (List aG) ((List aG) × Int))):=
 fun zz=>match zz with
 |(out,t26)=>
 bif (decide (t26<(p.racks.length:Int)))then
 dQ ((0:Int)≤t26∧t26<(p.racks.length:Int)) (
 dQ (gB [((decide (0≤(((at' p.racks t26.toNat).feeds).e0))),true)]=true→(0:Int)≤((at' p.racks t26.toNat).feeds).e0∧((at' p.racks t26.toNat).feeds).e0<(r_.1.length:Int)) (
 dQ (gB [((decide (0≤(((at' p.racks t26.toNat).feeds).e1))),true)]=true→(0:Int)≤((at' p.racks t26.toNat).feeds).e1∧((at' p.racks t26.toNat).feeds).e1<(r_.1.length:Int)) (
 dQ (((out.length+[(⟨(bif (decide (0≤(((at' p.racks t26.toNat).feeds).e0)))then(at' r_.1 ((((at' p.racks t26.toNat).feeds).e0).toNat))else false),(bif (decide (0≤(((at' p.racks t26.toNat).feeds).e1)))then(at' r_.1 ((((at' p.racks t26.toNat).feeds).e1).toNat))else false)⟩:aG)].length)*2≤140737488355328)∧(out.length+[(⟨(bif (decide (0≤(((at' p.racks t26.toNat).feeds).e0)))then(at' r_.1 ((((at' p.racks t26.toNat).feeds).e0).toNat))else false),(bif (decide (0≤(((at' p.racks t26.toNat).feeds).e1)))then(at' r_.1 ((((at' p.racks t26.toNat).feeds).e1).toNat))else false)⟩:aG)].length≤4611686018427387904)) (
 some (.next ((out++[(⟨(bif (decide (0≤(((at' p.racks t26.toNat).feeds).e0)))then(at' r_.1 ((((at' p.racks t26.toNat).feeds).e0).toNat))else false),(bif (decide (0≤(((at' p.racks t26.toNat).feeds).e1)))then(at' r_.1 ((((at' p.racks t26.toNat).feeds).e1).toNat))else false)⟩:aG)]),(IntKind.wrap .i64 (t26+1))))))))
 else
 some (.done (.brk out))
def wG (p:aj) (s_:State):Option ((List aG) × Int):=
 (jA p s_).bind fun r_=>
 bif (!decide (r_.2=0))then
 some (([]:List aG),r_.2)
 else
 Option.bind (aL (yA p r_) FUEL (([]:List aG),0)) fun o=>match o with
 | .ret v=>some v
 | .brk out1=>
 some (out1,0)
def uF (a:(List Int)) (b:(List Int)):Int→Option (bS Int (Ex Unit Bool)):=
 fun i=>
 bif (decide (i<(a.length:Int)))then
 dQ (((0:Int)≤i∧i<(a.length:Int))∧((0:Int)≤i∧i<(b.length:Int))) (
 bif (!decide ((at' a i.toNat)=(at' b i.toNat)))then
 some (.done (.ret false))
 else
 some (.next (IntKind.wrap .i64 (i+1))))
 else
 some (.done (.brk ()))
def lq (a:(List Int)) (b:(List Int)):Option Bool:=
 bif (!decide ((a.length:Int)=(b.length:Int)))then
 some false
 else
 Option.bind (aL (uF a b) FUEL (0)) fun o=>match o with
 | .ret v=>some v
 | .brk _=>
 some true
def nI (a:(List af)) (b:(List af)):Int→Option (bS Int (Ex Unit Bool)):=
 fun i=>
 bif (decide (i<(a.length:Int)))then
 (lq ((at' a i.toNat).buses) ((at' b i.toNat).buses)).bind fun r_=>
 (bif gB [((!r_),false)]then lq ((at' a i.toNat).sources) ((at' b i.toNat).sources)else some default).bind fun r_1=>
 dQ (((0:Int)≤i∧i<(a.length:Int))∧((0:Int)≤i∧i<(b.length:Int))∧(gB [((!r_),false)]=true→(0:Int)≤i∧i<(a.length:Int))∧(gB [((!r_),false)]=true→(0:Int)≤i∧i<(b.length:Int))) (
 bif (bif (!r_)then true else(!r_1))then
 some (.done (.ret false))
 else
 some (.next (IntKind.wrap .i64 (i+1))))
 else
 some (.done (.brk ()))
def iK (a:(List af)) (b:(List af)):Option Bool:=
 bif (!decide ((a.length:Int)=(b.length:Int)))then
 some false
 else
 Option.bind (aL (nI a b) FUEL (0)) fun o=>match o with
 | .ret v=>some v
 | .brk _=>
 some true
def p8 (a:(List au)) (b:(List au)):Int→Option (bS Int (Ex Unit Bool)):=
 fun i=>
 bif (decide (i<(a.length:Int)))then
 dQ (((0:Int)≤i∧i<(a.length:Int))∧((0:Int)≤i∧i<(b.length:Int))) (
 bif (!((decide (((at' a i.toNat).e0)=((at' b i.toNat).e0))) && ((decide (((at' a i.toNat).e1)=((at' b i.toNat).e1))) && true)))then
 some (.done (.ret false))
 else
 some (.next (IntKind.wrap .i64 (i+1))))
 else
 some (.done (.brk ()))
def l8 (a:(List au)) (b:(List au)):Option Bool:=
 bif (!decide ((a.length:Int)=(b.length:Int)))then
 some false
 else
 Option.bind (aL (p8 a b) FUEL (0)) fun o=>match o with
 | .ret v=>some v
 | .brk _=>
 some true
def Qb:DV→Int
 | .int _ n=>n
 |_=>0
def fmtS (p:aj) (i j:Nat):Int:=Qb (Source.cell (at' p.sources i) j)
def MZ (p:aj) (i j:Nat):Int:=Qb (Link.cell (at' p.links i) j)
def MQ (p:aj) (i:Nat):Nat:=(at' p.links i).trip.length
def Mh (p:aj) (i j:Nat):Int:=Qb (aO.cell (at' p.racks i) j)
def MS (p:aj) (i g j:Nat):Int:=Qb (dR.cell (at' (at' p.links i).trip g) j)
def OB (p:aj):List UInt8:=Jp p.buses p.sources.length p.links.length p.racks.length (fmtS p) (MZ p) (Mh p) (MQ p) (MS p)
def lG (p:aj):Option (ByteArray × Int):=
 (fM p).bind fun c=>bif decide (c=0)then(bif fmtG p.buses p.sources.length p.links.length p.racks.length (fmtS p) (MZ p) (Mh p) (MQ p) (MS p)then some (sb (OB p),0)else none)else none
def jO (p:aj) (s_:State):Option (Int × (List Source) × (List Link) × (List aO) × State):=
 some (p.buses,p.sources,p.links,p.racks,s_)
def lg (x12:(List Link)) (state:State):((List (Int × Int)) × Int)→Option (bS ((List (Int × Int)) × Int) (Ex (List (Int × Int)) ay)):=
 fun zz=>match zz with
 |(o50,t9)=>
 bif (decide (t9<(x12.length:Int)))then
 dQ ((0:Int)≤t9∧t9<(x12.length:Int)) (
 bif (bif (bif (bif (at' state.closed t9.toNat)then(!(at' state.badLink t9.toNat))else false)then(!(at' state.badBus (((at' x12 t9.toNat).a).toNat)))else false)then(!(at' state.badBus (((at' x12 t9.toNat).b).toNat)))else false)then
 (fe ((at' x12 t9.toNat).a) ((at' x12 t9.toNat).b) ((at' x12 t9.toNat).kind) ((at' x12 t9.toNat).most) ((at' x12 t9.toNat).ohm) ((at' x12 t9.toNat).trip) (⟨o50⟩:ay)).bind fun r_=>
 dQ (((0:Int)≤t9∧t9<(state.closed.length:Int))∧(gB [((at' state.closed t9.toNat),true)]=true→(0:Int)≤t9∧t9<(state.badLink.length:Int))∧(gB [((bif (at' state.closed t9.toNat)then(!(at' state.badLink t9.toNat))else false),true)]=true→(0:Int)≤(at' x12 t9.toNat).a∧(at' x12 t9.toNat).a<(state.badBus.length:Int))∧(gB [((bif (bif (at' state.closed t9.toNat)then(!(at' state.badLink t9.toNat))else false)then(!(at' state.badBus (((at' x12 t9.toNat).a).toNat)))else false),true)]=true→(0:Int)≤(at' x12 t9.toNat).b∧(at' x12 t9.toNat).b<(state.badBus.length:Int))) (
 some (.next (r_.head,(IntKind.wrap .i64 (t9+1)))))
 else
 dQ (((0:Int)≤t9∧t9<(state.closed.length:Int))∧(gB [((at' state.closed t9.toNat),true)]=true→(0:Int)≤t9∧t9<(state.badLink.length:Int))∧(gB [((bif (at' state.closed t9.toNat)then(!(at' state.badLink t9.toNat))else false),true)]=true→(0:Int)≤(at' x12 t9.toNat).a∧(at' x12 t9.toNat).a<(state.badBus.length:Int))∧(gB [((bif (bif (at' state.closed t9.toNat)then(!(at' state.badLink t9.toNat))else false)then(!(at' state.badBus (((at' x12 t9.toNat).a).toNat)))else false),true)]=true→(0:Int)≤(at' x12 t9.toNat).b∧(at' x12 t9.toNat).b<(state.badBus.length:Int))) (
 some (.next (o50,(IntKind.wrap .i64 (t9+1))))))
 else
 some (.done (.brk o50))
def iY (x1:Int) (x11:(List Source)) (x12:(List Link)) (x13:(List aO)) (state:State) (o_:ay):Option ay:=
 Option.bind (aL (lg x12 state) FUEL (o_.head,0)) fun o=>match o with
 | .ret v=>some v
 | .brk o501=>
 some (⟨o501⟩:ay)
def oU (p:aj) (s_:State) (r_1:ay):((List af) × (List (Int × Int)) × Int)→Option (bS ((List af) × (List (Int × Int)) × Int) (Ex ((List af) × (List (Int × Int))) (List af))):=
 fun zz=>match zz with
 |(out,at_,t32)=>
 bif (decide (t32<p.buses))then
 dQ ((0:Int)≤t32∧t32<(s_.badBus.length:Int)) (
 bif (at' s_.badBus t32.toNat)then
 some (.next (out,at_,(IntKind.wrap .i64 (t32+1))))
 else
 (aR r_1 t32).bind fun r_2=>
 bif (!((aJ bB r_2 at_).isSome))then
 dQ (((out.length+[(⟨([]:List Int),([]:List Int)⟩:af)].length)*48≤140737488355328)∧(out.length+[(⟨([]:List Int),([]:List Int)⟩:af)].length≤4611686018427387904)) (
 dQ (((0:Int)≤((aJ bB r_2 (dS bB r_2 (out.length:Int) at_)).getD 0)∧((aJ bB r_2 (dS bB r_2 (out.length:Int) at_)).getD 0)<((out++[(⟨([]:List Int),([]:List Int)⟩:af)]).length:Int))∧((((at' (out++[(⟨([]:List Int),([]:List Int)⟩:af)]) (((aJ bB r_2 (dS bB r_2 (out.length:Int) at_)).getD 0).toNat)).buses).length+[t32].length)*8≤140737488355328)∧(((at' (out++[(⟨([]:List Int),([]:List Int)⟩:af)]) (((aJ bB r_2 (dS bB r_2 (out.length:Int) at_)).getD 0).toNat)).buses).length+[t32].length≤4611686018427387904)) (
 some (.next (((out++[(⟨([]:List Int),([]:List Int)⟩:af)]).set (((aJ bB r_2 (dS bB r_2 (out.length:Int) at_)).getD 0).toNat) (⟨(((at' (out++[(⟨([]:List Int),([]:List Int)⟩:af)]) (((aJ bB r_2 (dS bB r_2 (out.length:Int) at_)).getD 0).toNat)).buses)++[t32]),(at' (out++[(⟨([]:List Int),([]:List Int)⟩:af)]) (((aJ bB r_2 (dS bB r_2 (out.length:Int) at_)).getD 0).toNat)).sources⟩:af)),(dS bB r_2 (out.length:Int) at_),(IntKind.wrap .i64 (t32+1))))))
 else
 dQ (((0:Int)≤((aJ bB r_2 at_).getD 0)∧((aJ bB r_2 at_).getD 0)<(out.length:Int))∧((((at' out (((aJ bB r_2 at_).getD 0).toNat)).buses).length+[t32].length)*8≤140737488355328)∧(((at' out (((aJ bB r_2 at_).getD 0).toNat)).buses).length+[t32].length≤4611686018427387904)) (
 some (.next ((out.set (((aJ bB r_2 at_).getD 0).toNat) (⟨(((at' out (((aJ bB r_2 at_).getD 0).toNat)).buses)++[t32]),(at' out (((aJ bB r_2 at_).getD 0).toNat)).sources⟩:af)),at_,(IntKind.wrap .i64 (t32+1))))))
 else
 some (.done (.brk (out,at_)))
def oP (p:aj) (s_:State) (r_1:ay) (at_1:(List (Int × Int))):((List af) × Int)→Option (bS ((List af) × Int) (Ex (List af) (List af))):=
 fun zz=>match zz with
 |(out2,t78)=>
 bif (decide (t78<(p.sources.length:Int)))then
 dQ ((0:Int)≤t78∧t78<(p.sources.length:Int)) (
 dQ (((0:Int)≤t78∧t78<(s_.on_.length:Int))∧(gB [((at' s_.on_ t78.toNat),true)]=true→(0:Int)≤t78∧t78<(s_.badSource.length:Int))∧(gB [((bif (at' s_.on_ t78.toNat)then(!(at' s_.badSource t78.toNat))else false),true)]=true→(0:Int)≤(at' p.sources t78.toNat).bus∧(at' p.sources t78.toNat).bus<(s_.badBus.length:Int))) (
 bif (bif (bif (at' s_.on_ t78.toNat)then(!(at' s_.badSource t78.toNat))else false)then(!(at' s_.badBus (((at' p.sources t78.toNat).bus).toNat)))else false)then
 (aR r_1 ((at' p.sources t78.toNat).bus)).bind fun r_3=>
 dQ (((0:Int)≤((aJ bB r_3 at_1).getD 0)∧((aJ bB r_3 at_1).getD 0)<(out2.length:Int))∧((((at' out2 (((aJ bB r_3 at_1).getD 0).toNat)).sources).length+[t78].length)*8≤140737488355328)∧(((at' out2 (((aJ bB r_3 at_1).getD 0).toNat)).sources).length+[t78].length≤4611686018427387904)) (
 some (.next ((out2.set (((aJ bB r_3 at_1).getD 0).toNat) (⟨(at' out2 (((aJ bB r_3 at_1).getD 0).toNat)).buses,(((at' out2 (((aJ bB r_3 at_1).getD 0).toNat)).sources)++[t78])⟩:af)),(IntKind.wrap .i64 (t78+1)))))
 else
 some (.next (out2,(IntKind.wrap .i64 (t78+1))))))
 else
 some (.done (.brk out2))
def gD (p:aj) (s_:State):Option (List af):=
 (jO p s_).bind fun r_=>
 (iY r_.1 r_.2.1 r_.2.2.1 r_.2.2.2.1 s_ (⟨([]:(List (Int × Int)))⟩:ay)).bind fun r_1=>
 Option.bind (aL (oU p s_ r_1) FUEL (([]:List af),([]:(List (Int × Int))),0)) fun o=>match o with
 | .ret v=>some v
 | .brk (out1,at_1)=>
 Option.bind (aL (oP p s_ r_1 at_1) FUEL (out1,0)) fun o=>match o with
 | .ret v=>some v
 | .brk out3=>
 some out3
def kV (p:aj) (s_:State):Option ((List af) × Int):=
 (aW p s_).bind fun r_=>
 bif (!decide (r_=0))then
 some (([]:List af),r_)
 else
 (gD p s_).bind fun r_1=>
 some (r_1,0)
def rY (r_1:(List af)) (t25:Int):((List Bool) × Int)→Option (bS ((List Bool) × Int) (Ex (List Bool) (bS ((List Bool) × Int) (Ex (List Bool) ((List Bool) × Int))))):=
 fun zz=>match zz with
 |(out2,t32)=>
 bif (decide (t32<(((at' r_1 t25.toNat).buses).length:Int)))then
 dQ ((0:Int)≤t32∧t32<(((at' r_1 t25.toNat).buses).length:Int)) (
 dQ ((0:Int)≤(at' ((at' r_1 t25.toNat).buses) t32.toNat)∧(at' ((at' r_1 t25.toNat).buses) t32.toNat)<(out2.length:Int)) (
 some (.next ((out2.set ((at' ((at' r_1 t25.toNat).buses) t32.toNat).toNat) (decide (0<(((at' r_1 t25.toNat).sources).length:Int)))),(IntKind.wrap .i64 (t32+1))))))
 else
 some (.done (.brk out2))
def sJ (r_1:(List af)):((List Bool) × Int)→Option (bS ((List Bool) × Int) (Ex (List Bool) ((List Bool) × Int))):=
 fun zz=>match zz with
 |(out,t25)=>
 bif (decide (t25<(r_1.length:Int)))then
 dQ ((0:Int)≤t25∧t25<(r_1.length:Int)) (
 Option.bind (aL (rY r_1 t25) FUEL (out,0)) fun o=>match o with
 | .ret v=>some v
 | .brk out3=>
 some (.next (out3,(IntKind.wrap .i64 (t25+1)))))
 else
 some (.done (.brk out))
def oG (p:aj) (s_:State):Option ((List Bool) × Int):=
 (aW p s_).bind fun r_=>
 bif (!decide (r_=0))then
 some (([]:List Bool),r_)
 else
 dQ (((0:Int)≤p.buses)∧((1:Int)*p.buses≤281474976710656)∧((p.buses:Int)≤9223372036854775807)) (
 (gD p s_).bind fun r_1=>
 Option.bind (aL (sJ r_1) FUEL ((List.replicate p.buses.toNat (false:Bool)),0)) fun o=>match o with
 | .ret v=>some v
 | .brk out1=>
 some (out1,0))
def sK (p:aj) (r_:((List Bool) × Int)):((List aG) × Int)→Option (bS ((List aG) × Int) (Ex (List aG) ((List aG) × Int))):=
 fun zz=>match zz with
 |(out,t26)=>
 bif (decide (t26<(p.racks.length:Int)))then
 dQ ((0:Int)≤t26∧t26<(p.racks.length:Int)) (
 dQ (gB [((decide (0≤(((at' p.racks t26.toNat).feeds).e0))),true)]=true→(0:Int)≤((at' p.racks t26.toNat).feeds).e0∧((at' p.racks t26.toNat).feeds).e0<(r_.1.length:Int)) (
 dQ (gB [((decide (0≤(((at' p.racks t26.toNat).feeds).e1))),true)]=true→(0:Int)≤((at' p.racks t26.toNat).feeds).e1∧((at' p.racks t26.toNat).feeds).e1<(r_.1.length:Int)) (
 dQ (((out.length+[(⟨(bif (decide (0≤(((at' p.racks t26.toNat).feeds).e0)))then(at' r_.1 ((((at' p.racks t26.toNat).feeds).e0).toNat))else false),(bif (decide (0≤(((at' p.racks t26.toNat).feeds).e1)))then(at' r_.1 ((((at' p.racks t26.toNat).feeds).e1).toNat))else false)⟩:aG)].length)*2≤140737488355328)∧(out.length+[(⟨(bif (decide (0≤(((at' p.racks t26.toNat).feeds).e0)))then(at' r_.1 ((((at' p.racks t26.toNat).feeds).e0).toNat))else false),(bif (decide (0≤(((at' p.racks t26.toNat).feeds).e1)))then(at' r_.1 ((((at' p.racks t26.toNat).feeds).e1).toNat))else false)⟩:aG)].length≤4611686018427387904)) (
 some (.next ((out++[(⟨(bif (decide (0≤(((at' p.racks t26.toNat).feeds).e0)))then(at' r_.1 ((((at' p.racks t26.toNat).feeds).e0).toNat))else false),(bif (decide (0≤(((at' p.racks t26.toNat).feeds).e1)))then(at' r_.1 ((((at' p.racks t26.toNat).feeds).e1).toNat))else false)⟩:aG)]),(IntKind.wrap .i64 (t26+1))))))))
 else
 some (.done (.brk out))
def pW (p:aj) (s_:State):Option ((List aG) × Int):=
 (oG p s_).bind fun r_=>
 bif (!decide (r_.2=0))then
 some (([]:List aG),r_.2)
 else
 Option.bind (aL (sK p r_) FUEL (([]:List aG),0)) fun o=>match o with
 | .ret v=>some v
 | .brk out1=>
 some (out1,0)
def j6:Option Bool:=
 (oJ).bind fun r_=>
 (oF r_).bind fun r_1=>
 bif (bif (bif (bif (!decide (r_1.2=0))then true else(!decide ((r_1.1.on_.length:Int)=2)))then true else(!decide ((r_1.1.closed.length:Int)=2)))then true else(!decide ((r_1.1.badBus.length:Int)=3)))then
 some false
 else
 (kV r_ (⟨[true,false],r_1.1.locked,r_1.1.badLink,[true,true],r_1.1.badSource,r_1.1.earthed,r_1.1.badBus⟩:State)).bind fun r_2=>
 (pW r_ (⟨[true,false],r_1.1.locked,r_1.1.badLink,[true,true],r_1.1.badSource,r_1.1.earthed,r_1.1.badBus⟩:State)).bind fun r_3=>
 bif (bif (bif (bif (!decide (r_2.2=0))then true else(!decide (r_3.2=0)))then true else(!decide ((r_3.1.length:Int)=1)))then true else(!((at' r_3.1 0).e0)))then
 dQ (gB [((bif (bif (!decide (r_2.2=0))then true else(!decide (r_3.2=0)))then true else(!decide ((r_3.1.length:Int)=1))),false)]=true→(0:Int)≤0∧0<(r_3.1.length:Int)) (
 some false)
 else
 (iK r_2.1 [(⟨[0,1],[0]⟩:af),(⟨[2],[1]⟩:af)]).bind fun r_4=>
 dQ (gB [((bif (bif (!decide (r_2.2=0))then true else(!decide (r_3.2=0)))then true else(!decide ((r_3.1.length:Int)=1))),false)]=true→(0:Int)≤0∧0<(r_3.1.length:Int)) (
 bif (!r_4)then
 some false
 else
 dQ ((0:Int)≤1∧1<([true,false].length:Int)) (
 (oz r_ (⟨([true,false].set 1 true),r_1.1.locked,r_1.1.badLink,[true,true],r_1.1.badSource,r_1.1.earthed,r_1.1.badBus⟩:State)).bind fun r_5=>
 (mH r_ (⟨([true,false].set 1 true),r_1.1.locked,r_1.1.badLink,[true,true],r_1.1.badSource,r_1.1.earthed,r_1.1.badBus⟩:State) (⟨3,0⟩:Part)).bind fun r_6=>
 (eU r_ r_6.1).bind fun r_7=>
 bif (bif (bif (!decide (r_5.2=0))then true else(!decide (r_6.2=0)))then true else(!decide (r_7.2=0)))then
 some false
 else
 (l8 r_5.1 [(⟨0,1⟩:au)]).bind fun r_8=>
 bif (!r_8)then
 some false
 else
 (iK r_7.1 [(⟨[0],[0]⟩:af),(⟨[1,2],[1]⟩:af)]).bind fun r_9=>
 bif (!r_9)then
 some false
 else
 (mH r_ (⟨([true,false].set 1 true),r_1.1.locked,r_1.1.badLink,[true,true],r_1.1.badSource,r_1.1.earthed,r_1.1.badBus⟩:State) (⟨1,1⟩:Part)).bind fun r_10=>
 (wG r_ r_10.1).bind fun r_11=>
 (lG r_).bind fun r_12=>
 dQ (gB [((bif (bif (bif (decide (r_10.2=0))then(decide (r_11.2=0))else false)then(decide (r_12.2=0))else false)then(decide ((r_11.1.length:Int)=1))else false),true)]=true→(0:Int)≤0∧0<(r_11.1.length:Int)) (
 some (bif (bif (bif (bif (bif (decide (r_10.2=0))then(decide (r_11.2=0))else false)then(decide (r_12.2=0))else false)then(decide ((r_11.1.length:Int)=1))else false)then(!((at' r_11.1 0).e0))else false)then((r_12.1:ByteArray).toList==(⟨#[112,108,97,110,116,32,51,10,115,111,117,114,99,101,32,48,32,103,114,105,100,32,53,48,48,32,48,32,50,48,10,115,111,117,114,99,101,32,50,32,103,101,110,101,114,97,116,111,114,32,51,48,48,32,48,32,52,48,10,108,105,110,107,32,48,32,49,32,98,114,101,97,107,101,114,32,52,48,48,32,49,48,32,49,48,48,48,58,52,48,48,32,53,48,48,48,58,53,48,10,108,105,110,107,32,49,32,50,32,98,114,101,97,107,101,114,32,52,48,48,32,49,48,10,114,97,99,107,32,49,32,45,49,32,49,48,48,32,49,10]⟩:ByteArray).toList)else false))))
def dZ (p:aj) (s_:State) (i:Int):Option Bool:=
 dQ ((0:Int)≤i∧i<(p.links.length:Int)) (
 dQ (((0:Int)≤i∧i<(s_.closed.length:Int))∧(gB [((at' s_.closed i.toNat),true)]=true→(0:Int)≤i∧i<(s_.badLink.length:Int))∧(gB [((bif (at' s_.closed i.toNat)then(!(at' s_.badLink i.toNat))else false),true)]=true→(0:Int)≤(at' p.links i.toNat).a∧(at' p.links i.toNat).a<(s_.badBus.length:Int))∧(gB [((bif (bif (at' s_.closed i.toNat)then(!(at' s_.badLink i.toNat))else false)then(!(at' s_.badBus (((at' p.links i.toNat).a).toNat)))else false),true)]=true→(0:Int)≤(at' p.links i.toNat).b∧(at' p.links i.toNat).b<(s_.badBus.length:Int))) (
 some (bif (bif (bif (at' s_.closed i.toNat)then(!(at' s_.badLink i.toNat))else false)then(!(at' s_.badBus (((at' p.links i.toNat).a).toNat)))else false)then(!(at' s_.badBus (((at' p.links i.toNat).b).toNat)))else false)))
def fE (l:(List Int)):((List Bool) × Int)→Option (bS ((List Bool) × Int) (Ex (List Bool) Bool)):=
 fun zz=>match zz with
 |(in_,n)=>
 bif (decide (n<(l.length:Int)))then
 dQ (((0:Int)≤n∧n<(l.length:Int))∧((0:Int)≤(at' l n.toNat)∧(at' l n.toNat)<(in_.length:Int))) (
 some (.next ((in_.set ((at' l n.toNat).toNat) true),(IntKind.wrap .i64 (n+1)))))
 else
 some (.done (.brk in_))
def fw (p:aj) (s_:State) (in_1:(List Bool)):((List Bool) × Int)→Option (bS ((List Bool) × Int) (Ex (List Bool) (bS ((List Bool) × Int) (Ex (List Bool) Bool)))):=
 fun zz=>match zz with
 |(seen2,i)=>
 bif (decide (i<(p.links.length:Int)))then
 dQ ((0:Int)≤i∧i<(p.links.length:Int)) (
 (dZ p s_ i).bind fun r_=>
 dQ ((gB [(r_,true)]=true→(0:Int)≤(at' p.links i.toNat).a∧(at' p.links i.toNat).a<(in_1.length:Int))∧(gB [((bif r_ then(at' in_1 (((at' p.links i.toNat).a).toNat))else false),true)]=true→(0:Int)≤(at' p.links i.toNat).b∧(at' p.links i.toNat).b<(in_1.length:Int))∧(gB [((bif (bif r_ then(at' in_1 (((at' p.links i.toNat).a).toNat))else false)then(at' in_1 (((at' p.links i.toNat).b).toNat))else false),true)]=true→(0:Int)≤(at' p.links i.toNat).a∧(at' p.links i.toNat).a<(seen2.length:Int))∧(gB [((at' seen2 (((at' p.links i.toNat).a).toNat)),false),((bif (bif r_ then(at' in_1 (((at' p.links i.toNat).a).toNat))else false)then(at' in_1 (((at' p.links i.toNat).b).toNat))else false),true)]=true→(0:Int)≤(at' p.links i.toNat).b∧(at' p.links i.toNat).b<(seen2.length:Int))) (
 bif (bif (bif (bif r_ then(at' in_1 (((at' p.links i.toNat).a).toNat))else false)then(at' in_1 (((at' p.links i.toNat).b).toNat))else false)then(bif (at' seen2 (((at' p.links i.toNat).a).toNat))then true else(at' seen2 (((at' p.links i.toNat).b).toNat)))else false)then
 dQ (((0:Int)≤(at' p.links i.toNat).a∧(at' p.links i.toNat).a<(seen2.length:Int))∧((0:Int)≤(at' p.links i.toNat).b∧(at' p.links i.toNat).b<(seen2.length:Int))) (
 some (.next (((seen2.set (((at' p.links i.toNat).a).toNat) true).set (((at' p.links i.toNat).b).toNat) true),(IntKind.wrap .i64 (i+1)))))
 else
 some (.next (seen2,(IntKind.wrap .i64 (i+1))))))
 else
 some (.done (.brk seen2))
def fC (p:aj) (s_:State) (l:(List Int)) (in_1:(List Bool)):((List Bool) × Int)→Option (bS ((List Bool) × Int) (Ex (List Bool) Bool)):=
 fun zz=>match zz with
 |(seen,n1)=>
 bif (decide (n1<(l.length:Int)))then
 Option.bind (aL (fw p s_ in_1) FUEL (seen,0)) fun o=>match o with
 | .ret v=>some v
 | .brk seen3=>
 some (.next (seen3,(IntKind.wrap .i64 (n1+1))))
 else
 some (.done (.brk seen))
def fB (l:(List Int)) (seen1:(List Bool)):Int→Option (bS Int (Ex Unit Bool)):=
 fun n2=>
 bif (decide (n2<(l.length:Int)))then
 dQ (((0:Int)≤n2∧n2<(l.length:Int))∧((0:Int)≤(at' l n2.toNat)∧(at' l n2.toNat)<(seen1.length:Int))) (
 bif (!(at' seen1 ((at' l n2.toNat).toNat)))then
 some (.done (.ret false))
 else
 some (.next (IntKind.wrap .i64 (n2+1))))
 else
 some (.done (.brk ()))
def ig (p:aj) (s_:State) (l:(List Int)):Option Bool:=
 dQ (((0:Int)≤p.buses)∧((1:Int)*p.buses≤281474976710656)∧((p.buses:Int)≤9223372036854775807)) (
 Option.bind (aL (fE l) FUEL ((List.replicate p.buses.toNat (false:Bool)),0)) fun o=>match o with
 | .ret v=>some v
 | .brk in_1=>
 dQ (((0:Int)≤0∧0<(l.length:Int))∧((0:Int)≤(at' l 0)∧(at' l 0)<((List.replicate p.buses.toNat (false:Bool)).length:Int))) (
 Option.bind (aL (fC p s_ l in_1) FUEL (((List.replicate p.buses.toNat (false:Bool)).set ((at' l 0).toNat) true),0)) fun o=>match o with
 | .ret v=>some v
 | .brk seen1=>
 Option.bind (aL (fB l seen1) FUEL (0)) fun o=>match o with
 | .ret v=>some v
 | .brk _=>
 some true))
def dL (p:aj) (s_:State):((List Bool) × Int)→Option (bS ((List Bool) × Int) (Ex (List Bool) Bool)):=
 fun zz=>match zz with
 |(way,kz)=>
 bif (decide (kz<(p.sources.length:Int)))then
 dQ ((0:Int)≤kz∧kz<(p.sources.length:Int)) (
 dQ (((0:Int)≤(at' p.sources kz.toNat).bus∧(at' p.sources kz.toNat).bus<(way.length:Int))∧(gB [((at' way (((at' p.sources kz.toNat).bus).toNat)),false)]=true→(0:Int)≤kz∧kz<(s_.on_.length:Int))∧(gB [((at' s_.on_ kz.toNat),true),((at' way (((at' p.sources kz.toNat).bus).toNat)),false)]=true→(0:Int)≤kz∧kz<(s_.badSource.length:Int))∧(gB [((bif (at' s_.on_ kz.toNat)then(!(at' s_.badSource kz.toNat))else false),true),((at' way (((at' p.sources kz.toNat).bus).toNat)),false)]=true→(0:Int)≤(at' p.sources kz.toNat).bus∧(at' p.sources kz.toNat).bus<(s_.badBus.length:Int))) (
 some (.next ((way.set (((at' p.sources kz.toNat).bus).toNat) (bif (at' way (((at' p.sources kz.toNat).bus).toNat))then true else(bif (bif (at' s_.on_ kz.toNat)then(!(at' s_.badSource kz.toNat))else false)then(!(at' s_.badBus (((at' p.sources kz.toNat).bus).toNat)))else false))),(IntKind.wrap .i64 (kz+1))))))
 else
 some (.done (.brk way))
def dG (p:aj) (s_:State):((List Bool) × Int)→Option (bS ((List Bool) × Int) (Ex (List Bool) (bS ((List Bool) × Int) (Ex (List Bool) Bool)))):=
 fun zz=>match zz with
 |(way4,i)=>
 bif (decide (i<(p.links.length:Int)))then
 dQ ((0:Int)≤i∧i<(p.links.length:Int)) (
 (dZ p s_ i).bind fun r_5=>
 dQ ((gB [(r_5,true)]=true→(0:Int)≤(at' p.links i.toNat).a∧(at' p.links i.toNat).a<(way4.length:Int))∧(gB [(r_5,true)]=true→(0:Int)≤(at' p.links i.toNat).b∧(at' p.links i.toNat).b<(way4.length:Int))) (
 bif (bif r_5 then(!((at' way4 (((at' p.links i.toNat).a).toNat))==(at' way4 (((at' p.links i.toNat).b).toNat))))else false)then
 dQ (((0:Int)≤(at' p.links i.toNat).a∧(at' p.links i.toNat).a<(way4.length:Int))∧((0:Int)≤(at' p.links i.toNat).b∧(at' p.links i.toNat).b<(way4.length:Int))) (
 some (.next (((way4.set (((at' p.links i.toNat).a).toNat) true).set (((at' p.links i.toNat).b).toNat) true),(IntKind.wrap .i64 (i+1)))))
 else
 some (.next (way4,(IntKind.wrap .i64 (i+1))))))
 else
 some (.done (.brk way4))
def dM (p:aj) (s_:State):((List Bool) × Int)→Option (bS ((List Bool) × Int) (Ex (List Bool) Bool)):=
 fun zz=>match zz with
 |(way2,n)=>
 bif (decide (n<p.buses))then
 Option.bind (aL (dG p s_) FUEL (way2,0)) fun o=>match o with
 | .ret v=>some v
 | .brk way5=>
 some (.next (way5,(IntKind.wrap .i64 (n+1))))
 else
 some (.done (.brk way2))
def dJ (p:aj) (s_:State) (r_4:((List af) × Int)) (i1:Int):((List Int) × Int)→Option (bS ((List Int) × Int) (Ex (List Int) (bS ((List Int) × Int) (Ex (List Int) Bool)))):=
 fun zz=>match zz with
 |(in_2,n1)=>
 bif (decide (n1<(((at' r_4.1 i1.toNat).buses).length:Int)))then
 dQ (((0:Int)≤n1∧n1<(((at' r_4.1 i1.toNat).buses).length:Int))∧(gB [((decide ((at' ((at' r_4.1 i1.toNat).buses) n1.toNat)<0)),false)]=true→(0:Int)≤n1∧n1<(((at' r_4.1 i1.toNat).buses).length:Int))∧(gB [((bif (decide ((at' ((at' r_4.1 i1.toNat).buses) n1.toNat)<0))then true else(decide (p.buses≤(at' ((at' r_4.1 i1.toNat).buses) n1.toNat)))),false)]=true→(0:Int)≤n1∧n1<(((at' r_4.1 i1.toNat).buses).length:Int))∧(gB [((bif (decide ((at' ((at' r_4.1 i1.toNat).buses) n1.toNat)<0))then true else(decide (p.buses≤(at' ((at' r_4.1 i1.toNat).buses) n1.toNat)))),false)]=true→(0:Int)≤(at' ((at' r_4.1 i1.toNat).buses) n1.toNat)∧(at' ((at' r_4.1 i1.toNat).buses) n1.toNat)<(s_.badBus.length:Int))∧(gB [((bif (bif (decide ((at' ((at' r_4.1 i1.toNat).buses) n1.toNat)<0))then true else(decide (p.buses≤(at' ((at' r_4.1 i1.toNat).buses) n1.toNat))))then true else(at' s_.badBus ((at' ((at' r_4.1 i1.toNat).buses) n1.toNat).toNat))),false)]=true→(0:Int)≤n1∧n1<(((at' r_4.1 i1.toNat).buses).length:Int))∧(gB [((bif (bif (decide ((at' ((at' r_4.1 i1.toNat).buses) n1.toNat)<0))then true else(decide (p.buses≤(at' ((at' r_4.1 i1.toNat).buses) n1.toNat))))then true else(at' s_.badBus ((at' ((at' r_4.1 i1.toNat).buses) n1.toNat).toNat))),false)]=true→(0:Int)≤(at' ((at' r_4.1 i1.toNat).buses) n1.toNat)∧(at' ((at' r_4.1 i1.toNat).buses) n1.toNat)<(in_2.length:Int))∧(gB [((decide (0<n1)),true),((bif (bif (bif (decide ((at' ((at' r_4.1 i1.toNat).buses) n1.toNat)<0))then true else(decide (p.buses≤(at' ((at' r_4.1 i1.toNat).buses) n1.toNat))))then true else(at' s_.badBus ((at' ((at' r_4.1 i1.toNat).buses) n1.toNat).toNat)))then true else(!decide ((at' in_2 ((at' ((at' r_4.1 i1.toNat).buses) n1.toNat).toNat))=0))),false)]=true→(0:Int)≤(IntKind.wrap .i64 (n1 - 1))∧(IntKind.wrap .i64 (n1 - 1))<(((at' r_4.1 i1.toNat).buses).length:Int))∧(gB [((decide (0<n1)),true),((bif (bif (bif (decide ((at' ((at' r_4.1 i1.toNat).buses) n1.toNat)<0))then true else(decide (p.buses≤(at' ((at' r_4.1 i1.toNat).buses) n1.toNat))))then true else(at' s_.badBus ((at' ((at' r_4.1 i1.toNat).buses) n1.toNat).toNat)))then true else(!decide ((at' in_2 ((at' ((at' r_4.1 i1.toNat).buses) n1.toNat).toNat))=0))),false)]=true→(0:Int)≤n1∧n1<(((at' r_4.1 i1.toNat).buses).length:Int))) (
 bif (bif (bif (bif (bif (decide ((at' ((at' r_4.1 i1.toNat).buses) n1.toNat)<0))then true else(decide (p.buses≤(at' ((at' r_4.1 i1.toNat).buses) n1.toNat))))then true else(at' s_.badBus ((at' ((at' r_4.1 i1.toNat).buses) n1.toNat).toNat)))then true else(!decide ((at' in_2 ((at' ((at' r_4.1 i1.toNat).buses) n1.toNat).toNat))=0)))then true else(bif (decide (0<n1))then(decide ((at' ((at' r_4.1 i1.toNat).buses) n1.toNat)≤(at' ((at' r_4.1 i1.toNat).buses) ((IntKind.wrap .i64 (n1 - 1)).toNat))))else false))then
 some (.done (.ret (.done (.ret false))))
 else
 dQ (((0:Int)≤n1∧n1<(((at' r_4.1 i1.toNat).buses).length:Int))∧((0:Int)≤(at' ((at' r_4.1 i1.toNat).buses) n1.toNat)∧(at' ((at' r_4.1 i1.toNat).buses) n1.toNat)<(in_2.length:Int))) (
 some (.next ((in_2.set ((at' ((at' r_4.1 i1.toNat).buses) n1.toNat).toNat) (IntKind.wrap .i64 (i1+1))),(IntKind.wrap .i64 (n1+1))))))
 else
 some (.done (.brk in_2))
def dI (p:aj) (s_:State) (r_4:((List af) × Int)) (i1:Int) (in_3:(List Int)):Int→Option (bS Int (Ex Unit (bS ((List Int) × Int) (Ex (List Int) Bool)))):=
 fun n2=>
 dQ ((0:Int)≤i1∧i1<(r_4.1.length:Int)) (
 bif (decide (n2<(((at' r_4.1 i1.toNat).sources).length:Int)))then
 dQ (((0:Int)≤i1∧i1<(r_4.1.length:Int))∧((0:Int)≤n2∧n2<(((at' r_4.1 i1.toNat).sources).length:Int))) (
 dQ ((gB [((bif (decide ((at' ((at' r_4.1 i1.toNat).sources) n2.toNat)<0))then true else(decide ((p.sources.length:Int)≤(at' ((at' r_4.1 i1.toNat).sources) n2.toNat)))),false)]=true→(0:Int)≤(at' ((at' r_4.1 i1.toNat).sources) n2.toNat)∧(at' ((at' r_4.1 i1.toNat).sources) n2.toNat)<(s_.on_.length:Int))∧(gB [((bif (bif (decide ((at' ((at' r_4.1 i1.toNat).sources) n2.toNat)<0))then true else(decide ((p.sources.length:Int)≤(at' ((at' r_4.1 i1.toNat).sources) n2.toNat))))then true else(!(at' s_.on_ ((at' ((at' r_4.1 i1.toNat).sources) n2.toNat).toNat)))),false)]=true→(0:Int)≤(at' ((at' r_4.1 i1.toNat).sources) n2.toNat)∧(at' ((at' r_4.1 i1.toNat).sources) n2.toNat)<(s_.badSource.length:Int))∧(gB [((bif (bif (bif (decide ((at' ((at' r_4.1 i1.toNat).sources) n2.toNat)<0))then true else(decide ((p.sources.length:Int)≤(at' ((at' r_4.1 i1.toNat).sources) n2.toNat))))then true else(!(at' s_.on_ ((at' ((at' r_4.1 i1.toNat).sources) n2.toNat).toNat))))then true else(at' s_.badSource ((at' ((at' r_4.1 i1.toNat).sources) n2.toNat).toNat))),false)]=true→(0:Int)≤(at' ((at' r_4.1 i1.toNat).sources) n2.toNat)∧(at' ((at' r_4.1 i1.toNat).sources) n2.toNat)<(p.sources.length:Int))∧(gB [((bif (bif (bif (decide ((at' ((at' r_4.1 i1.toNat).sources) n2.toNat)<0))then true else(decide ((p.sources.length:Int)≤(at' ((at' r_4.1 i1.toNat).sources) n2.toNat))))then true else(!(at' s_.on_ ((at' ((at' r_4.1 i1.toNat).sources) n2.toNat).toNat))))then true else(at' s_.badSource ((at' ((at' r_4.1 i1.toNat).sources) n2.toNat).toNat))),false)]=true→(0:Int)≤(at' p.sources ((at' ((at' r_4.1 i1.toNat).sources) n2.toNat).toNat)).bus∧(at' p.sources ((at' ((at' r_4.1 i1.toNat).sources) n2.toNat).toNat)).bus<(in_3.length:Int))) (
 bif (bif (bif (bif (bif (decide ((at' ((at' r_4.1 i1.toNat).sources) n2.toNat)<0))then true else(decide ((p.sources.length:Int)≤(at' ((at' r_4.1 i1.toNat).sources) n2.toNat))))then true else(!(at' s_.on_ ((at' ((at' r_4.1 i1.toNat).sources) n2.toNat).toNat))))then true else(at' s_.badSource ((at' ((at' r_4.1 i1.toNat).sources) n2.toNat).toNat)))then true else(!decide ((at' in_3 (((at' p.sources ((at' ((at' r_4.1 i1.toNat).sources) n2.toNat).toNat)).bus).toNat))=(IntKind.wrap .i64 (i1+1)))))then
 some (.done (.ret (.done (.ret false))))
 else
 some (.next (IntKind.wrap .i64 (n2+1)))))
 else
 some (.done (.brk ())))
def dP (p:aj) (s_:State) (r_4:((List af) × Int)):((List Int) × Int)→Option (bS ((List Int) × Int) (Ex (List Int) Bool)):=
 fun zz=>match zz with
 |(in_,i1)=>
 bif (decide (i1<(r_4.1.length:Int)))then
 dQ ((0:Int)≤i1∧i1<(r_4.1.length:Int)) (
 dQ ((gB [((decide (0<i1)),true),((decide ((((at' r_4.1 i1.toNat).buses).length:Int)=0)),false)]=true→(0:Int)≤(IntKind.wrap .i64 (i1 - 1))∧(IntKind.wrap .i64 (i1 - 1))<(r_4.1.length:Int))∧(gB [((decide (0<i1)),true),((decide ((((at' r_4.1 i1.toNat).buses).length:Int)=0)),false)]=true→(0:Int)≤0∧0<(((at' r_4.1 ((IntKind.wrap .i64 (i1 - 1)).toNat)).buses).length:Int))∧(gB [((decide (0<i1)),true),((decide ((((at' r_4.1 i1.toNat).buses).length:Int)=0)),false)]=true→(0:Int)≤0∧0<(((at' r_4.1 i1.toNat).buses).length:Int))) (
 bif (bif (decide ((((at' r_4.1 i1.toNat).buses).length:Int)=0))then true else(bif (decide (0<i1))then(decide ((at' ((at' r_4.1 i1.toNat).buses) 0)≤(at' ((at' r_4.1 ((IntKind.wrap .i64 (i1 - 1)).toNat)).buses) 0)))else false))then
 some (.done (.ret false))
 else
 Option.bind (aL (dJ p s_ r_4 i1) FUEL (in_,0)) fun o=>match o with
 | .ret v=>some v
 | .brk in_3=>
 (ig p s_ ((at' r_4.1 i1.toNat).buses)).bind fun r_6=>
 bif (!r_6)then
 some (.done (.ret false))
 else
 Option.bind (aL (dI p s_ r_4 i1 in_3) FUEL (0)) fun o=>match o with
 | .ret v=>some v
 | .brk _=>
 some (.next (in_3,(IntKind.wrap .i64 (i1+1))))))
 else
 some (.done (.brk in_))
def dO (p:aj) (s_:State) (r_3:((List Bool) × Int)) (r_4:((List af) × Int)) (way3:(List Bool)) (in_1:(List Int)):Int→Option (bS Int (Ex Unit Bool)):=
 fun b=>
 bif (decide (b<p.buses))then
 dQ (((0:Int)≤b∧b<(r_3.1.length:Int))∧((0:Int)≤b∧b<(way3.length:Int))∧(gB [((!((at' r_3.1 b.toNat)==(at' way3 b.toNat))),false)]=true→(0:Int)≤b∧b<(in_1.length:Int))∧(gB [((!((at' r_3.1 b.toNat)==(at' way3 b.toNat))),false)]=true→(0:Int)≤b∧b<(s_.badBus.length:Int))∧(gB [((bif (!((at' r_3.1 b.toNat)==(at' way3 b.toNat)))then true else(!((decide ((at' in_1 b.toNat)=0))==(at' s_.badBus b.toNat)))),false)]=true→(0:Int)≤b∧b<(in_1.length:Int))∧(gB [((decide (0<(at' in_1 b.toNat))),true),((bif (!((at' r_3.1 b.toNat)==(at' way3 b.toNat)))then true else(!((decide ((at' in_1 b.toNat)=0))==(at' s_.badBus b.toNat)))),false)]=true→(0:Int)≤b∧b<(r_3.1.length:Int))∧(gB [((decide (0<(at' in_1 b.toNat))),true),((bif (!((at' r_3.1 b.toNat)==(at' way3 b.toNat)))then true else(!((decide ((at' in_1 b.toNat)=0))==(at' s_.badBus b.toNat)))),false)]=true→(0:Int)≤b∧b<(in_1.length:Int))∧(gB [((decide (0<(at' in_1 b.toNat))),true),((bif (!((at' r_3.1 b.toNat)==(at' way3 b.toNat)))then true else(!((decide ((at' in_1 b.toNat)=0))==(at' s_.badBus b.toNat)))),false)]=true→(0:Int)≤(IntKind.wrap .i64 ((at' in_1 b.toNat) - 1))∧(IntKind.wrap .i64 ((at' in_1 b.toNat) - 1))<(r_4.1.length:Int))) (
 bif (bif (bif (!((at' r_3.1 b.toNat)==(at' way3 b.toNat)))then true else(!((decide ((at' in_1 b.toNat)=0))==(at' s_.badBus b.toNat))))then true else(bif (decide (0<(at' in_1 b.toNat)))then(!((at' r_3.1 b.toNat)==(decide (0<(((at' r_4.1 ((IntKind.wrap .i64 ((at' in_1 b.toNat) - 1)).toNat)).sources).length:Int)))))else false))then
 some (.done (.ret false))
 else
 some (.next (IntKind.wrap .i64 (b+1))))
 else
 some (.done (.brk ()))
def dH (p:aj) (s_:State) (in_1:(List Int)):Int→Option (bS Int (Ex Unit Bool)):=
 fun i2=>
 bif (decide (i2<(p.links.length:Int)))then
 (dZ p s_ i2).bind fun r_7=>
 dQ ((gB [(r_7,true)]=true→(0:Int)≤i2∧i2<(p.links.length:Int))∧(gB [(r_7,true)]=true→(0:Int)≤(at' p.links i2.toNat).a∧(at' p.links i2.toNat).a<(in_1.length:Int))∧(gB [(r_7,true)]=true→(0:Int)≤(at' p.links i2.toNat).b∧(at' p.links i2.toNat).b<(in_1.length:Int))) (
 bif (bif r_7 then(!decide ((at' in_1 (((at' p.links i2.toNat).a).toNat))=(at' in_1 (((at' p.links i2.toNat).b).toNat))))else false)then
 some (.done (.ret false))
 else
 some (.next (IntKind.wrap .i64 (i2+1))))
 else
 some (.done (.brk ()))
def gU (p:aj) (s_:State):Option Bool:=
 (lW p).bind fun r_=>
 (bif gB [(r_,false)]then aW p s_ else some default).bind fun r_1=>
 bif (bif r_ then true else(!decide (r_1=0)))then
 (j6).bind fun r_2=>
 some r_2
 else
 (jA p s_).bind fun r_3=>
 (eU p s_).bind fun r_4=>
 bif (bif (bif (!decide (r_3.2=0))then true else(!decide (r_4.2=0)))then true else(!decide ((r_3.1.length:Int)=p.buses)))then
 some false
 else
 dQ (((0:Int)≤p.buses)∧((1:Int)*p.buses≤281474976710656)∧((p.buses:Int)≤9223372036854775807)) (
 Option.bind (aL (dL p s_) FUEL ((List.replicate p.buses.toNat (false:Bool)),0)) fun o=>match o with
 | .ret v=>some v
 | .brk way1=>
 Option.bind (aL (dM p s_) FUEL (way1,0)) fun o=>match o with
 | .ret v=>some v
 | .brk way3=>
 dQ (((0:Int)≤p.buses)∧((8:Int)*p.buses≤281474976710656)∧((p.buses:Int)≤9223372036854775807)) (
 Option.bind (aL (dP p s_ r_4) FUEL ((List.replicate p.buses.toNat (0:Int)),0)) fun o=>match o with
 | .ret v=>some v
 | .brk in_1=>
 Option.bind (aL (dO p s_ r_3 r_4 way3 in_1) FUEL (0)) fun o=>match o with
 | .ret v=>some v
 | .brk _=>
 Option.bind (aL (dH p s_ in_1) FUEL (0)) fun o=>match o with
 | .ret v=>some v
 | .brk _=>
 (j6).bind fun r_8=>
 some r_8))
end Sg
