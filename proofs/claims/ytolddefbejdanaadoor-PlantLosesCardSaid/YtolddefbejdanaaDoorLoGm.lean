import Derived.Test.YtolddefbejdanaaDoorLoLc
import Derived.Test.YtolddefbejdanaaDoorLoLd
set_option linter.all false
namespace Sg
open Go
structure Source where
 bus:Int
 kind:Int
 power:Int
 sync:Int
 ohm:Int
instance:Inhabited Source:=⟨⟨default,default,default,default,default⟩⟩
def Source.cell (x:Source):Nat→DV
 |0=>(.int .i64 x.bus)
 |1=>(.int .i64 x.kind)
 |2=>(.int .i64 x.power)
 |3=>(.int .i64 x.sync)
 |4=>(.int .i64 x.ohm)
 |_=> .nilp
structure dR where
 amps:Int
 millis:Int
instance:Inhabited dR:=⟨⟨default,default⟩⟩
def dR.cell (x:dR):Nat→DV
 |0=>(.int .i64 x.amps)
 |1=>(.int .i64 x.millis)
 |_=> .nilp
structure Link where
 a:Int
 b:Int
 kind:Int
 most:Int
 ohm:Int
 trip:(List dR)
instance:Inhabited Link:=⟨⟨default,default,default,default,default,default⟩⟩
def Link.cell (x:Link):Nat→DV
 |0=>(.int .i64 x.a)
 |1=>(.int .i64 x.b)
 |2=>(.int .i64 x.kind)
 |3=>(.int .i64 x.most)
 |4=>(.int .i64 x.ohm)
 |5=>(bC none 2 dR.cell x.trip)
 |_=> .nilp
structure ai where
 e0:Int
 e1:Int
instance:Inhabited ai:=⟨⟨default,default⟩⟩
def ai.cell (x:ai):Nat→DV
 |0=>(.int .i64 x.e0)
 |1=>(.int .i64 x.e1)
 |_=> .nilp
structure aO where
 feeds:ai
 power:Int
 paths:Int
instance:Inhabited aO:=⟨⟨default,default,default⟩⟩
def aO.cell (x:aO):Nat→DV
 |0=>(.int .i64 x.feeds.e0)
 |1=>(.int .i64 x.feeds.e1)
 |2=>(.int .i64 x.power)
 |3=>(.int .i64 x.paths)
 |_=> .nilp
structure au where
 buses:Int
 sources:(List Source)
 links:(List Link)
 racks:(List aO)
instance:Inhabited au:=⟨⟨default,default,default,default⟩⟩
def au.cell (x:au):Nat→DV
 |0=>(.int .i64 x.buses)
 |1=>(bC none 5 Source.cell x.sources)
 |2=>(bC none 6 Link.cell x.links)
 |3=>(bC none 4 aO.cell x.racks)
 |_=> .nilp
structure State where
 closed:(List Bool)
 locked:(List Bool)
 badLink:(List Bool)
 on_:(List Bool)
 badSource:(List Bool)
 earthed:(List Bool)
 badBus:(List Bool)
instance:Inhabited State:=⟨⟨default,default,default,default,default,default,default⟩⟩
def State.cell (x:State):Nat→DV
 |0=>(bC none 1 ah x.closed)
 |1=>(bC none 1 ah x.locked)
 |2=>(bC none 1 ah x.badLink)
 |3=>(bC none 1 ah x.on_)
 |4=>(bC none 1 ah x.badSource)
 |5=>(bC none 1 ah x.earthed)
 |6=>(bC none 1 ah x.badBus)
 |_=> .nilp
structure bD where
 l:(List Bool)
 n:Int
instance:Inhabited bD:=⟨⟨default,default⟩⟩
def bD.cell (x:bD):Nat→DV
 |0=>(bC none 1 ah x.l)
 |1=>(.int .i64 x.n)
 |_=> .nilp
structure aB where
 head:(List (Int × Int))
instance:Inhabited aB:=⟨⟨default⟩⟩
def aB.cell (x:aB):Nat→DV
 |0=> .nilp
 |_=> .nilp
structure af where
 buses:(List Int)
 sources:(List Int)
instance:Inhabited af:=⟨⟨default,default⟩⟩
def af.cell (x:af):Nat→DV
 |0=>(bC none 1 (aH .i64) x.buses)
 |1=>(bC none 1 (aH .i64) x.sources)
 |_=> .nilp
structure Part where
 kind:Int
 index:Int
instance:Inhabited Part:=⟨⟨default,default⟩⟩
def Part.cell (x:Part):Nat→DV
 |0=>(.int .i64 x.kind)
 |1=>(.int .i64 x.index)
 |_=> .nilp
structure aG where
 e0:Bool
 e1:Bool
instance:Inhabited aG:=⟨⟨default,default⟩⟩
def aG.cell (x:aG):Nat→DV
 |0=>(.bool x.e0)
 |1=>(.bool x.e1)
 |_=> .nilp
def af.ev (x:af):Nat→EV
 |0=> .row 3 1 x.buses.length (ay (aH .i64) x.buses)
 |1=> .row 3 1 x.sources.length (ay (aH .i64) x.sources)
 |_=> .d .nilp
def jJ (p:au):Int→Option (dw Int (Ex Unit Bool)):=
 fun i=>
 bif (decide (i<(p.links.length:Int)))then
 eY ((0:Int)≤i∧i<(p.links.length:Int)) (
 bif (decide (20<(((at' p.links i.toNat).trip).length:Int)))then
 some (.done (.ret true))
 else
 some (.next (IntKind.wrap .i64 (i+1))))
 else
 some (.done (.brk ()))
def mI (p:au):Option Bool:=
 bif (bif (bif (decide (60<(p.sources.length:Int)))then true else(decide (60<(p.links.length:Int))))then true else(decide (60<(p.racks.length:Int))))then
 some true
 else
 Option.bind (aK (jJ p) FUEL (0)) fun o=>match o with
 | .ret v=>some v
 | .brk _=>
 some false
def aF (n:Int) (first:Int) (last:Int):Option Bool:=
 some (bif (decide (first≤n))then(decide (n≤last))else false)
def lM (p:au):Option (Int × (List Source) × (List Link) × (List aO)):=
 some (p.buses,p.sources,p.links,p.racks)
def nY (p:au):Option (Int × (List Source) × (List Link) × (List aO)):=
 some (p.buses,p.sources,p.links,p.racks)
def ou (p:au):Option (Int × (List Source) × (List Link) × (List aO)):=
 some (p.buses,p.sources,p.links,p.racks)
def iJ (x:Source) (x1:Int) (x11:(List Source)) (x12:(List Link)) (x13:(List aO)):Option Bool:=
 (aF x.bus 0 (IntKind.wrap .i64 (x1 - 1))).bind fun r_=>
 (bif gB [(r_,true)]then aF x.kind 1 3 else some default).bind fun r_1=>
 (bif gB [((bif r_ then r_1 else false),true)]then aF x.power 1 100000 else some default).bind fun r_2=>
 (bif gB [((bif (bif r_ then r_1 else false)then r_2 else false),true)]then aF x.sync 0 8 else some default).bind fun r_3=>
 (bif gB [((bif (bif (bif r_ then r_1 else false)then r_2 else false)then r_3 else false),true)]then aF x.ohm 10 100000 else some default).bind fun r_4=>
 some (bif (bif (bif (bif r_ then r_1 else false)then r_2 else false)then r_3 else false)then r_4 else false)
def lN (x:Source) (x1:Int) (x11:(List Source)) (x12:(List Link)) (x13:(List aO)):Option Bool:=
 (iJ x x1 x11 x12 x13).bind fun r_=>
 some (!r_)
def ig (s_:(List Source)) (f_:Int) (f_1:(List Source)) (f_2:(List Link)) (f_3:(List aO)):Int→Option (dw Int (Ex Unit Int)):=
 fun t8=>
 bif (decide (t8<(s_.length:Int)))then
 (lN (at' s_ t8.toNat) f_ f_1 f_2 f_3).bind fun r_=>
 eY ((0:Int)≤t8∧t8<(s_.length:Int)) (
 bif r_ then
 some (.done (.ret t8))
 else
 some (.next (IntKind.wrap .i64 (t8+1))))
 else
 some (.done (.brk ()))
def jh (s_:(List Source)) (f_:Int) (f_1:(List Source)) (f_2:(List Link)) (f_3:(List aO)):Option Int:=
 Option.bind (aK (ig s_ f_ f_1 f_2 f_3) FUEL (0)) fun o=>match o with
 | .ret v=>some v
 | .brk _=>
 some (-1)
def eT (s_:(List Source)) (f_:Int) (f_1:(List Source)) (f_2:(List Link)) (f_3:(List aO)):Option Bool:=
 (jh s_ f_ f_1 f_2 f_3).bind fun r_=>
 some (decide (0≤r_))
def kZ (l:(List Source)) (most:Int) (right:Int) (right1:(List Source)) (right2:(List Link)) (right3:(List aO)):Option Bool:=
 (bif gB [((decide ((l.length:Int)≤most)),true)]then eT l right right1 right2 right3 else some default).bind fun r_=>
 some (bif (decide ((l.length:Int)≤most))then(!r_)else false)
def iy (x:Link):Int→Option (dw Int (Ex Unit Bool)):=
 fun t50=>
 bif (decide (t50<(x.trip.length:Int)))then
 eY ((0:Int)≤t50∧t50<(x.trip.length:Int)) (
 (aF ((at' x.trip t50.toNat).amps) 1 1000000).bind fun r_5=>
 (bif gB [((!r_5),false)]then aF ((at' x.trip t50.toNat).millis) 1 100000 else some default).bind fun r_6=>
 eY ((gB [((decide (0<t50)),true),((bif (!r_5)then true else(!r_6)),false)]=true→(0:Int)≤(IntKind.wrap .i64 (t50 - 1))∧(IntKind.wrap .i64 (t50 - 1))<(x.trip.length:Int))∧(gB [((decide (((at' x.trip t50.toNat).amps)≤((at' x.trip ((IntKind.wrap .i64 (t50 - 1)).toNat)).amps))),false),((decide (0<t50)),true),((bif (!r_5)then true else(!r_6)),false)]=true→(0:Int)≤(IntKind.wrap .i64 (t50 - 1))∧(IntKind.wrap .i64 (t50 - 1))<(x.trip.length:Int))) (
 bif (bif (bif (!r_5)then true else(!r_6))then true else(bif (decide (0<t50))then(bif (decide (((at' x.trip t50.toNat).amps)≤((at' x.trip ((IntKind.wrap .i64 (t50 - 1)).toNat)).amps)))then true else(decide (((at' x.trip ((IntKind.wrap .i64 (t50 - 1)).toNat)).millis)≤((at' x.trip t50.toNat).millis))))else false))then
 some (.done (.ret false))
 else
 some (.next (IntKind.wrap .i64 (t50+1)))))
 else
 some (.done (.brk ()))
def jM (x:Link) (x1:Int) (x11:(List Source)) (x12:(List Link)) (x13:(List aO)):Option Bool:=
 (aF x.a 0 (IntKind.wrap .i64 (x1 - 1))).bind fun r_=>
 (bif gB [((!r_),false)]then aF x.b 0 (IntKind.wrap .i64 (x1 - 1))else some default).bind fun r_1=>
 (bif gB [((bif (bif (!r_)then true else(!r_1))then true else(decide (x.a=x.b))),false)]then aF x.kind 1 3 else some default).bind fun r_2=>
 (bif gB [((bif (bif (bif (!r_)then true else(!r_1))then true else(decide (x.a=x.b)))then true else(!r_2)),false)]then aF x.most 1 100000 else some default).bind fun r_3=>
 (bif gB [((bif (bif (bif (bif (!r_)then true else(!r_1))then true else(decide (x.a=x.b)))then true else(!r_2))then true else(!r_3)),false)]then aF x.ohm 10 100000 else some default).bind fun r_4=>
 bif (bif (bif (bif (bif (bif (!r_)then true else(!r_1))then true else(decide (x.a=x.b)))then true else(!r_2))then true else(!r_3))then true else(!r_4))then
 some false
 else
 Option.bind (aK (iy x) FUEL (0)) fun o=>match o with
 | .ret v=>some v
 | .brk _=>
 some (bif (decide ((x.trip.length:Int)≤6))then(bif (decide ((x.trip.length:Int)=0))then true else(decide (x.kind=3)))else false)
def jU (x:Link) (x1:Int) (x11:(List Source)) (x12:(List Link)) (x13:(List aO)):Option Bool:=
 (jM x x1 x11 x12 x13).bind fun r_=>
 some (!r_)
def fM (s_:(List Link)) (f_:Int) (f_1:(List Source)) (f_2:(List Link)) (f_3:(List aO)):Int→Option (dw Int (Ex Unit Int)):=
 fun t8=>
 bif (decide (t8<(s_.length:Int)))then
 (jU (at' s_ t8.toNat) f_ f_1 f_2 f_3).bind fun r_=>
 eY ((0:Int)≤t8∧t8<(s_.length:Int)) (
 bif r_ then
 some (.done (.ret t8))
 else
 some (.next (IntKind.wrap .i64 (t8+1))))
 else
 some (.done (.brk ()))
def gZ (s_:(List Link)) (f_:Int) (f_1:(List Source)) (f_2:(List Link)) (f_3:(List aO)):Option Int:=
 Option.bind (aK (fM s_ f_ f_1 f_2 f_3) FUEL (0)) fun o=>match o with
 | .ret v=>some v
 | .brk _=>
 some (-1)
def dM (s_:(List Link)) (f_:Int) (f_1:(List Source)) (f_2:(List Link)) (f_3:(List aO)):Option Bool:=
 (gZ s_ f_ f_1 f_2 f_3).bind fun r_=>
 some (decide (0≤r_))
def jW (l:(List Link)) (most:Int) (right:Int) (right1:(List Source)) (right2:(List Link)) (right3:(List aO)):Option Bool:=
 (bif gB [((decide ((l.length:Int)≤most)),true)]then dM l right right1 right2 right3 else some default).bind fun r_=>
 some (bif (decide ((l.length:Int)≤most))then(!r_)else false)
def kG (x:aO):Option Int:=
 bif (decide (x.feeds.e1=(-1)))then
 some 1
 else
 some 2
def jZ (x:aO) (x1:Int) (x11:(List Source)) (x12:(List Link)) (x13:(List aO)):Option Bool:=
 (aF x.feeds.e0 0 (IntKind.wrap .i64 (x1 - 1))).bind fun r_=>
 (bif gB [(r_,true)]then aF x.feeds.e1 (-1) (IntKind.wrap .i64 (x1 - 1))else some default).bind fun r_1=>
 (bif gB [((bif (bif r_ then r_1 else false)then(!decide (x.feeds.e0=x.feeds.e1))else false),true)]then aF x.power 1 100000 else some default).bind fun r_2=>
 (bif gB [((bif (bif (bif r_ then r_1 else false)then(!decide (x.feeds.e0=x.feeds.e1))else false)then r_2 else false),true)]then kG x else some default).bind fun r_3=>
 (bif gB [((bif (bif (bif r_ then r_1 else false)then(!decide (x.feeds.e0=x.feeds.e1))else false)then r_2 else false),true)]then aF x.paths 0 r_3 else some default).bind fun r_4=>
 some (bif (bif (bif (bif r_ then r_1 else false)then(!decide (x.feeds.e0=x.feeds.e1))else false)then r_2 else false)then r_4 else false)
def jL (x:aO) (x1:Int) (x11:(List Source)) (x12:(List Link)) (x13:(List aO)):Option Bool:=
 (jZ x x1 x11 x12 x13).bind fun r_=>
 some (!r_)
def fI (s_:(List aO)) (f_:Int) (f_1:(List Source)) (f_2:(List Link)) (f_3:(List aO)):Int→Option (dw Int (Ex Unit Int)):=
 fun t8=>
 bif (decide (t8<(s_.length:Int)))then
 (jL (⟨((at' s_ t8.toNat).feeds),(at' s_ t8.toNat).power,(at' s_ t8.toNat).paths⟩:aO) f_ f_1 f_2 f_3).bind fun r_=>
 eY ((0:Int)≤t8∧t8<(s_.length:Int)) (
 bif r_ then
 some (.done (.ret t8))
 else
 some (.next (IntKind.wrap .i64 (t8+1))))
 else
 some (.done (.brk ()))
def ic (s_:(List aO)) (f_:Int) (f_1:(List Source)) (f_2:(List Link)) (f_3:(List aO)):Option Int:=
 Option.bind (aK (fI s_ f_ f_1 f_2 f_3) FUEL (0)) fun o=>match o with
 | .ret v=>some v
 | .brk _=>
 some (-1)
def dN (s_:(List aO)) (f_:Int) (f_1:(List Source)) (f_2:(List Link)) (f_3:(List aO)):Option Bool:=
 (ic s_ f_ f_1 f_2 f_3).bind fun r_=>
 some (decide (0≤r_))
def jX (l:(List aO)) (most:Int) (right:Int) (right1:(List Source)) (right2:(List Link)) (right3:(List aO)):Option Bool:=
 (bif gB [((decide ((l.length:Int)≤most)),true)]then dN l right right1 right2 right3 else some default).bind fun r_=>
 some (bif (decide ((l.length:Int)≤most))then(!r_)else false)
def dY (p:au):Option Int:=
 (aF p.buses 1 24).bind fun r_=>
 bif (!r_)then
 some 10
 else
 (lM p).bind fun r_1=>
 (kZ p.sources 8 r_1.1 r_1.2.1 r_1.2.2.1 r_1.2.2.2).bind fun r_2=>
 bif (!r_2)then
 some 11
 else
 (nY p).bind fun r_3=>
 (jW p.links 40 r_3.1 r_3.2.1 r_3.2.2.1 r_3.2.2.2).bind fun r_4=>
 bif (!r_4)then
 some 12
 else
 (ou p).bind fun r_5=>
 (jX p.racks 24 r_5.1 r_5.2.1 r_5.2.2.1 r_5.2.2.2).bind fun r_6=>
 bif (!r_6)then
 some 13
 else
 some 0
def eP (p:au) (s_:State):Int→Option (dw Int (Ex Unit Int)):=
 fun t55=>
 bif (decide (t55<([(⟨s_.closed,(p.links.length:Int)⟩:bD),(⟨s_.locked,(p.links.length:Int)⟩:bD),(⟨s_.badLink,(p.links.length:Int)⟩:bD),(⟨s_.on_,(p.sources.length:Int)⟩:bD),(⟨s_.badSource,(p.sources.length:Int)⟩:bD),(⟨s_.earthed,p.buses⟩:bD),(⟨s_.badBus,p.buses⟩:bD)].length:Int)))then
 eY ((0:Int)≤t55∧t55<([(⟨s_.closed,(p.links.length:Int)⟩:bD),(⟨s_.locked,(p.links.length:Int)⟩:bD),(⟨s_.badLink,(p.links.length:Int)⟩:bD),(⟨s_.on_,(p.sources.length:Int)⟩:bD),(⟨s_.badSource,(p.sources.length:Int)⟩:bD),(⟨s_.earthed,p.buses⟩:bD),(⟨s_.badBus,p.buses⟩:bD)].length:Int)) (
 bif (!decide ((((at' [(⟨s_.closed,(p.links.length:Int)⟩:bD),(⟨s_.locked,(p.links.length:Int)⟩:bD),(⟨s_.badLink,(p.links.length:Int)⟩:bD),(⟨s_.on_,(p.sources.length:Int)⟩:bD),(⟨s_.badSource,(p.sources.length:Int)⟩:bD),(⟨s_.earthed,p.buses⟩:bD),(⟨s_.badBus,p.buses⟩:bD)] t55.toNat).l).length:Int)=((at' [(⟨s_.closed,(p.links.length:Int)⟩:bD),(⟨s_.locked,(p.links.length:Int)⟩:bD),(⟨s_.badLink,(p.links.length:Int)⟩:bD),(⟨s_.on_,(p.sources.length:Int)⟩:bD),(⟨s_.badSource,(p.sources.length:Int)⟩:bD),(⟨s_.earthed,p.buses⟩:bD),(⟨s_.badBus,p.buses⟩:bD)] t55.toNat).n)))then
 some (.done (.ret 9))
 else
 some (.next (IntKind.wrap .i64 (t55+1))))
 else
 some (.done (.brk ()))
def eO (p:au) (s_:State):Int→Option (dw Int (Ex Unit Int)):=
 fun t69=>
 bif (decide (t69<(p.links.length:Int)))then
 eY ((0:Int)≤t69∧t69<(p.links.length:Int)) (
 eY ((gB [((decide (((at' p.links t69.toNat).kind)=1)),true)]=true→(0:Int)≤t69∧t69<(s_.closed.length:Int))∧(gB [((!(at' s_.closed t69.toNat)),false),((decide (((at' p.links t69.toNat).kind)=1)),true)]=true→(0:Int)≤t69∧t69<(s_.locked.length:Int))) (
 bif (bif (decide (((at' p.links t69.toNat).kind)=1))then(bif (!(at' s_.closed t69.toNat))then true else(at' s_.locked t69.toNat))else false)then
 some (.done (.ret 9))
 else
 some (.next (IntKind.wrap .i64 (t69+1)))))
 else
 some (.done (.brk ()))
def aW (p:au) (s_:State):Option Int:=
 (dY p).bind fun r_=>
 bif (!decide (r_=0))then
 some r_
 else
 Option.bind (aK (eP p s_) FUEL (0)) fun o=>match o with
 | .ret v=>some v
 | .brk _=>
 Option.bind (aK (eO p s_) FUEL (0)) fun o=>match o with
 | .ret v=>some v
 | .brk _=>
 some 0
def gG (p:au) (s_:State):Option (Int × (List Source) × (List Link) × (List aO) × (List Bool) × (List Bool) × (List Bool) × (List Bool) × (List Bool) × (List Bool) × (List Bool)):=
 some (p.buses,p.sources,p.links,p.racks,s_.closed,s_.locked,s_.badLink,s_.on_,s_.badSource,s_.earthed,s_.badBus)
def dA (g:aB):Int→Option (dw Int (Ex Unit Int)):=
 fun x1=>
 bif (!((aJ bg x1 g.head).isSome))then
 some (.done (.ret x1))
 else
 some (.next ((aJ bg x1 g.head).getD 0))
def aT (g:aB) (x:Int):Option Int:=
 Option.bind (aK (dA g) FUEL (x)) fun o=>match o with
 | .ret v=>some v
 | .brk _=>none
def fP (g:aB) (a:Int) (b:Int):Option (List (Int × Int)):=
 (aT g a).bind fun r_=>
 (aT g b).bind fun r_1=>
 bif (!decide (r_=r_1))then
 some (dU bg r_ r_1 g.head)
 else
 some g.head
def fB (x22:Int) (x221:Int) (x222:Int) (x223:Int) (x224:Int) (x225:(List dR)) (o_:aB):Option aB:=
 (fP o_ x22 x221).bind fun r_=>
 some (⟨r_⟩:aB)
def bQ (x12:(List Link)) (x2:(List Bool)) (x22:(List Bool)) (x26:(List Bool)):((List (Int × Int)) × Int)→Option (dw ((List (Int × Int)) × Int) (Ex (List (Int × Int)) aB)):=
 fun zz=>match zz with
 |(o50,t9)=>
 bif (decide (t9<(x12.length:Int)))then
 eY ((0:Int)≤t9∧t9<(x12.length:Int)) (
 bif (bif (bif (bif (at' x2 t9.toNat)then(!(at' x22 t9.toNat))else false)then(!(at' x26 (((at' x12 t9.toNat).a).toNat)))else false)then(!(at' x26 (((at' x12 t9.toNat).b).toNat)))else false)then
 (fB ((at' x12 t9.toNat).a) ((at' x12 t9.toNat).b) ((at' x12 t9.toNat).kind) ((at' x12 t9.toNat).most) ((at' x12 t9.toNat).ohm) ((at' x12 t9.toNat).trip) (⟨o50⟩:aB)).bind fun r_=>
 eY (((0:Int)≤t9∧t9<(x2.length:Int))∧(gB [((at' x2 t9.toNat),true)]=true→(0:Int)≤t9∧t9<(x22.length:Int))∧(gB [((bif (at' x2 t9.toNat)then(!(at' x22 t9.toNat))else false),true)]=true→(0:Int)≤(at' x12 t9.toNat).a∧(at' x12 t9.toNat).a<(x26.length:Int))∧(gB [((bif (bif (at' x2 t9.toNat)then(!(at' x22 t9.toNat))else false)then(!(at' x26 (((at' x12 t9.toNat).a).toNat)))else false),true)]=true→(0:Int)≤(at' x12 t9.toNat).b∧(at' x12 t9.toNat).b<(x26.length:Int))) (
 some (.next (r_.head,(IntKind.wrap .i64 (t9+1)))))
 else
 eY (((0:Int)≤t9∧t9<(x2.length:Int))∧(gB [((at' x2 t9.toNat),true)]=true→(0:Int)≤t9∧t9<(x22.length:Int))∧(gB [((bif (at' x2 t9.toNat)then(!(at' x22 t9.toNat))else false),true)]=true→(0:Int)≤(at' x12 t9.toNat).a∧(at' x12 t9.toNat).a<(x26.length:Int))∧(gB [((bif (bif (at' x2 t9.toNat)then(!(at' x22 t9.toNat))else false)then(!(at' x26 (((at' x12 t9.toNat).a).toNat)))else false),true)]=true→(0:Int)≤(at' x12 t9.toNat).b∧(at' x12 t9.toNat).b<(x26.length:Int))) (
 some (.next (o50,(IntKind.wrap .i64 (t9+1))))))
 else
 some (.done (.brk o50))
def iE (x1:Int) (x11:(List Source)) (x12:(List Link)) (x13:(List aO)) (x2:(List Bool)) (x21:(List Bool)) (x22:(List Bool)) (x23:(List Bool)) (x24:(List Bool)) (x25:(List Bool)) (x26:(List Bool)) (o_:aB):Option aB:=
 Option.bind (aK (bQ x12 x2 x22 x26) FUEL (o_.head,0)) fun o=>match o with
 | .ret v=>some v
 | .brk o501=>
 some (⟨o501⟩:aB)
def aX (p:au) (s_:State) (r_1:aB):((List af) × (List (Int × Int)) × Int)→Option (dw ((List af) × (List (Int × Int)) × Int) (Ex ((List af) × (List (Int × Int))) (List af))):=
 fun zz=>match zz with
 |(out,at_,t32)=>
 bif (decide (t32<p.buses))then
 eY ((0:Int)≤t32∧t32<(s_.badBus.length:Int)) (
 bif (at' s_.badBus t32.toNat)then
 some (.next (out,at_,(IntKind.wrap .i64 (t32+1))))
 else
 (aT r_1 t32).bind fun r_2=>
 bif (!((aJ bg r_2 at_).isSome))then
 eY (((out.length+[(⟨([]:List Int),([]:List Int)⟩:af)].length)*48≤140737488355328)∧(out.length+[(⟨([]:List Int),([]:List Int)⟩:af)].length≤4611686018427387904)) (
 eY (((0:Int)≤((aJ bg r_2 (dU bg r_2 (out.length:Int) at_)).getD 0)∧((aJ bg r_2 (dU bg r_2 (out.length:Int) at_)).getD 0)<((out++[(⟨([]:List Int),([]:List Int)⟩:af)]).length:Int))∧((((at' (out++[(⟨([]:List Int),([]:List Int)⟩:af)]) (((aJ bg r_2 (dU bg r_2 (out.length:Int) at_)).getD 0).toNat)).buses).length+[t32].length)*8≤140737488355328)∧(((at' (out++[(⟨([]:List Int),([]:List Int)⟩:af)]) (((aJ bg r_2 (dU bg r_2 (out.length:Int) at_)).getD 0).toNat)).buses).length+[t32].length≤4611686018427387904)) (
 some (.next (((out++[(⟨([]:List Int),([]:List Int)⟩:af)]).set (((aJ bg r_2 (dU bg r_2 (out.length:Int) at_)).getD 0).toNat) (⟨(((at' (out++[(⟨([]:List Int),([]:List Int)⟩:af)]) (((aJ bg r_2 (dU bg r_2 (out.length:Int) at_)).getD 0).toNat)).buses)++[t32]),(at' (out++[(⟨([]:List Int),([]:List Int)⟩:af)]) (((aJ bg r_2 (dU bg r_2 (out.length:Int) at_)).getD 0).toNat)).sources⟩:af)),(dU bg r_2 (out.length:Int) at_),(IntKind.wrap .i64 (t32+1))))))
 else
 eY (((0:Int)≤((aJ bg r_2 at_).getD 0)∧((aJ bg r_2 at_).getD 0)<(out.length:Int))∧((((at' out (((aJ bg r_2 at_).getD 0).toNat)).buses).length+[t32].length)*8≤140737488355328)∧(((at' out (((aJ bg r_2 at_).getD 0).toNat)).buses).length+[t32].length≤4611686018427387904)) (
 some (.next ((out.set (((aJ bg r_2 at_).getD 0).toNat) (⟨(((at' out (((aJ bg r_2 at_).getD 0).toNat)).buses)++[t32]),(at' out (((aJ bg r_2 at_).getD 0).toNat)).sources⟩:af)),at_,(IntKind.wrap .i64 (t32+1))))))
 else
 some (.done (.brk (out,at_)))
def aV (p:au) (s_:State) (r_1:aB) (at_1:(List (Int × Int))):((List af) × Int)→Option (dw ((List af) × Int) (Ex (List af) (List af))):=
 fun zz=>match zz with
 |(out2,t78)=>
 bif (decide (t78<(p.sources.length:Int)))then
 eY ((0:Int)≤t78∧t78<(p.sources.length:Int)) (
 eY (((0:Int)≤t78∧t78<(s_.on_.length:Int))∧(gB [((at' s_.on_ t78.toNat),true)]=true→(0:Int)≤t78∧t78<(s_.badSource.length:Int))∧(gB [((bif (at' s_.on_ t78.toNat)then(!(at' s_.badSource t78.toNat))else false),true)]=true→(0:Int)≤(at' p.sources t78.toNat).bus∧(at' p.sources t78.toNat).bus<(s_.badBus.length:Int))) (
 bif (bif (bif (at' s_.on_ t78.toNat)then(!(at' s_.badSource t78.toNat))else false)then(!(at' s_.badBus (((at' p.sources t78.toNat).bus).toNat)))else false)then
 (aT r_1 ((at' p.sources t78.toNat).bus)).bind fun r_3=>
 eY (((0:Int)≤((aJ bg r_3 at_1).getD 0)∧((aJ bg r_3 at_1).getD 0)<(out2.length:Int))∧((((at' out2 (((aJ bg r_3 at_1).getD 0).toNat)).sources).length+[t78].length)*8≤140737488355328)∧(((at' out2 (((aJ bg r_3 at_1).getD 0).toNat)).sources).length+[t78].length≤4611686018427387904)) (
 some (.next ((out2.set (((aJ bg r_3 at_1).getD 0).toNat) (⟨(at' out2 (((aJ bg r_3 at_1).getD 0).toNat)).buses,(((at' out2 (((aJ bg r_3 at_1).getD 0).toNat)).sources)++[t78])⟩:af)),(IntKind.wrap .i64 (t78+1)))))
 else
 some (.next (out2,(IntKind.wrap .i64 (t78+1))))))
 else
 some (.done (.brk out2))
def cO (p:au) (s_:State):Option (List af):=
 (gG p s_).bind fun r_=>
 (iE r_.1 r_.2.1 r_.2.2.1 r_.2.2.2.1 r_.2.2.2.2.1 r_.2.2.2.2.2.1 r_.2.2.2.2.2.2.1 r_.2.2.2.2.2.2.2.1 r_.2.2.2.2.2.2.2.2.1 r_.2.2.2.2.2.2.2.2.2.1 r_.2.2.2.2.2.2.2.2.2.2 (⟨([]:(List (Int × Int)))⟩:aB)).bind fun r_1=>
 Option.bind (aK (aX p s_ r_1) FUEL (([]:List af),([]:(List (Int × Int))),0)) fun o=>match o with
 | .ret v=>some v
 | .brk (out1,at_1)=>
 Option.bind (aK (aV p s_ r_1 at_1) FUEL (out1,0)) fun o=>match o with
 | .ret v=>some v
 | .brk out3=>
 some out3
def oZ (p:au) (s_:State):Option ((List af) × Int):=
 (aW p s_).bind fun r_=>
 bif (!decide (r_=0))then
 some (([]:List af),r_)
 else
 (cO p s_).bind fun r_1=>
 some (r_1,0)
def mo (s_:(List Bool)) (s_nn:Bool):Option (List Bool):=
 bif (!s_nn)then
 some ([]:List Bool)
 else
 eY (((([]:List Bool).length+s_.length)*1≤140737488355328)∧(([]:List Bool).length+s_.length≤4611686018427387904)) (
 some (([]:List Bool)++s_))
def bJ (s:(List Bool)):Option (List Bool):=mo s true
def jT (s_:State):Option State:=
 eY ((0:Int)≤0∧0<(7:Int)) (
 (bJ s_.closed).bind fun r_=>
 eY ((0:Int)≤1∧1<(7:Int)) (
 (bJ s_.locked).bind fun r_1=>
 eY ((0:Int)≤2∧2<(7:Int)) (
 (bJ s_.badLink).bind fun r_2=>
 eY ((0:Int)≤3∧3<(7:Int)) (
 (bJ s_.on_).bind fun r_3=>
 eY ((0:Int)≤4∧4<(7:Int)) (
 (bJ s_.badSource).bind fun r_4=>
 eY ((0:Int)≤5∧5<(7:Int)) (
 (bJ s_.earthed).bind fun r_5=>
 eY ((0:Int)≤6∧6<(7:Int)) (
 (bJ s_.badBus).bind fun r_6=>
 some (⟨r_,r_1,r_2,r_3,r_4,r_5,r_6⟩:State))))))))
def fV (p:au) (s_:State) (x:Part) (is:Bool):Option (State × Int):=
 (aW p s_).bind fun r_=>
 bif (!decide (r_=0))then
 some ((⟨([]:List Bool),([]:List Bool),([]:List Bool),([]:List Bool),([]:List Bool),([]:List Bool),([]:List Bool)⟩:State),r_)
 else
 (jT s_).bind fun r_1=>
 bif (bg x.kind 1)then
 (aF x.index 0 (IntKind.wrap .i64 ((r_1.badBus.length:Int) - 1))).bind fun r_2=>
 bif (!r_2)then
 some ((⟨([]:List Bool),([]:List Bool),([]:List Bool),([]:List Bool),([]:List Bool),([]:List Bool),([]:List Bool)⟩:State),14)
 else
 eY ((0:Int)≤x.index∧x.index<(r_1.badBus.length:Int)) (
 some ((⟨r_1.closed,r_1.locked,r_1.badLink,r_1.on_,r_1.badSource,r_1.earthed,(r_1.badBus.set x.index.toNat is)⟩:State),0))
 else
 bif (bg x.kind 2)then
 (aF x.index 0 (IntKind.wrap .i64 ((r_1.badSource.length:Int) - 1))).bind fun r_3=>
 bif (!r_3)then
 some ((⟨([]:List Bool),([]:List Bool),([]:List Bool),([]:List Bool),([]:List Bool),([]:List Bool),([]:List Bool)⟩:State),14)
 else
 eY ((0:Int)≤x.index∧x.index<(r_1.badSource.length:Int)) (
 some ((⟨r_1.closed,r_1.locked,r_1.badLink,r_1.on_,(r_1.badSource.set x.index.toNat is),r_1.earthed,r_1.badBus⟩:State),0))
 else
 bif (bg x.kind 3)then
 (aF x.index 0 (IntKind.wrap .i64 ((r_1.badLink.length:Int) - 1))).bind fun r_4=>
 bif (!r_4)then
 some ((⟨([]:List Bool),([]:List Bool),([]:List Bool),([]:List Bool),([]:List Bool),([]:List Bool),([]:List Bool)⟩:State),14)
 else
 eY ((0:Int)≤x.index∧x.index<(r_1.badLink.length:Int)) (
 some ((⟨r_1.closed,r_1.locked,(r_1.badLink.set x.index.toNat is),r_1.on_,r_1.badSource,r_1.earthed,r_1.badBus⟩:State),0))
 else
 (aF x.index 0 (-1)).bind fun r_5=>
 bif (!r_5)then
 some ((⟨([]:List Bool),([]:List Bool),([]:List Bool),([]:List Bool),([]:List Bool),([]:List Bool),([]:List Bool)⟩:State),14)
 else
 none
def iX (p:au) (s_:State) (x:Part):Option (State × Int):=
 (fV p s_ x true).bind fun r_=>
 some (r_.1,r_.2)
def aZ (x y:ai):Int:=if x.e0<y.e0 then -1 else if y.e0<x.e0 then 1 else if x.e1<y.e1 then -1 else if y.e1<x.e1 then 1 else 0
def fC (s:(List ai)):Option (List ai):=match s with
 |[]=>some []
 |x::xs=>bif decide ((x::xs).length<4611686018427387904)then some ((x::xs).mergeSort fun x y=> !decide (aZ y x<0))else none
def gT (p:au) (r_1:(List af)) (t24:Int) (t31:Int):((List ai) × Int)→Option (dw ((List ai) × Int) (Ex (List ai) (dw ((List ai) × Int) (Ex (List ai) (dw ((List ai) × Int) (Ex (List ai) ((List ai) × Int))))))):=
 fun zz=>match zz with
 |(out4,t42)=>
 bif (decide (t42<(((((at' r_1 t24.toNat).sources).length - ((IntKind.wrap .i64 (t31+1)).toNat)):Nat):Int)))then
 eY ((0:Int)≤t42∧t42<((((at' r_1 t24.toNat).sources).drop ((IntKind.wrap .i64 (t31+1)).toNat)).length:Int)) (
 eY (((0:Int)≤(at' ((at' r_1 t24.toNat).sources) t31.toNat)∧(at' ((at' r_1 t24.toNat).sources) t31.toNat)<(p.sources.length:Int))∧(gB [((decide (((at' p.sources ((at' ((at' r_1 t24.toNat).sources) t31.toNat).toNat)).sync)=0)),false)]=true→(0:Int)≤(at' ((at' r_1 t24.toNat).sources) t31.toNat)∧(at' ((at' r_1 t24.toNat).sources) t31.toNat)<(p.sources.length:Int))∧(gB [((decide (((at' p.sources ((at' ((at' r_1 t24.toNat).sources) t31.toNat).toNat)).sync)=0)),false)]=true→(0:Int)≤(at' (((at' r_1 t24.toNat).sources).drop ((IntKind.wrap .i64 (t31+1)).toNat)) t42.toNat)∧(at' (((at' r_1 t24.toNat).sources).drop ((IntKind.wrap .i64 (t31+1)).toNat)) t42.toNat)<(p.sources.length:Int))) (
 bif (bif (decide (((at' p.sources ((at' ((at' r_1 t24.toNat).sources) t31.toNat).toNat)).sync)=0))then true else(!decide (((at' p.sources ((at' ((at' r_1 t24.toNat).sources) t31.toNat).toNat)).sync)=((at' p.sources ((at' (((at' r_1 t24.toNat).sources).drop ((IntKind.wrap .i64 (t31+1)).toNat)) t42.toNat).toNat)).sync))))then
 eY (((out4.length+[(⟨(at' ((at' r_1 t24.toNat).sources) t31.toNat),(at' (((at' r_1 t24.toNat).sources).drop ((IntKind.wrap .i64 (t31+1)).toNat)) t42.toNat)⟩:ai)].length)*16≤140737488355328)∧(out4.length+[(⟨(at' ((at' r_1 t24.toNat).sources) t31.toNat),(at' (((at' r_1 t24.toNat).sources).drop ((IntKind.wrap .i64 (t31+1)).toNat)) t42.toNat)⟩:ai)].length≤4611686018427387904)) (
 some (.next ((out4++[(⟨(at' ((at' r_1 t24.toNat).sources) t31.toNat),(at' (((at' r_1 t24.toNat).sources).drop ((IntKind.wrap .i64 (t31+1)).toNat)) t42.toNat)⟩:ai)]),(IntKind.wrap .i64 (t42+1)))))
 else
 some (.next (out4,(IntKind.wrap .i64 (t42+1))))))
 else
 some (.done (.brk out4))
def gQ (p:au) (r_1:(List af)) (t24:Int):((List ai) × Int)→Option (dw ((List ai) × Int) (Ex (List ai) (dw ((List ai) × Int) (Ex (List ai) ((List ai) × Int))))):=
 fun zz=>match zz with
 |(out2,t31)=>
 bif (decide (t31<(((at' r_1 t24.toNat).sources).length:Int)))then
 eY ((0:Int)≤t31∧t31<(((at' r_1 t24.toNat).sources).length:Int)) (
 eY ((0:Int)≤(IntKind.wrap .i64 (t31+1))∧(IntKind.wrap .i64 (t31+1))≤(((at' r_1 t24.toNat).sources).length:Int)) (
 Option.bind (aK (gT p r_1 t24 t31) FUEL (out2,0)) fun o=>match o with
 | .ret v=>some v
 | .brk out5=>
 some (.next (out5,(IntKind.wrap .i64 (t31+1))))))
 else
 some (.done (.brk out2))
def eD (p:au) (r_1:(List af)):((List ai) × Int)→Option (dw ((List ai) × Int) (Ex (List ai) ((List ai) × Int))):=
 fun zz=>match zz with
 |(out,t24)=>
 bif (decide (t24<(r_1.length:Int)))then
 eY ((0:Int)≤t24∧t24<(r_1.length:Int)) (
 Option.bind (aK (gQ p r_1 t24) FUEL (out,0)) fun o=>match o with
 | .ret v=>some v
 | .brk out3=>
 some (.next (out3,(IntKind.wrap .i64 (t24+1)))))
 else
 some (.done (.brk out))
def fq (p:au) (s_:State):Option ((List ai) × Int):=
 (aW p s_).bind fun r_=>
 bif (!decide (r_=0))then
 some (([]:List ai),r_)
 else
 (cO p s_).bind fun r_1=>
 Option.bind (aK (eD p r_1) FUEL (([]:List ai),0)) fun o=>match o with
 | .ret v=>some v
 | .brk out1=>
 (fC out1).bind fun r_2=>
 eY (out1.length=r_2.length) (
 some (r_2,0))
def oU:Option au:=
 some (⟨3,[(⟨0,1,500,0,20⟩:Source),(⟨2,2,300,0,40⟩:Source)],[(⟨0,1,3,400,10,[(⟨1000,400⟩:dR),(⟨5000,50⟩:dR)]⟩:Link),(⟨1,2,3,400,10,([]:List dR)⟩:Link)],[(⟨(⟨1,(-1)⟩:ai),100,1⟩:aO)]⟩:au)
def cB (n:Int):Option (List Bool):=
 eY (((0:Int)≤n)∧((1:Int)*n≤281474976710656)∧((n:Int)≤9223372036854775807)) (
 some (List.replicate n.toNat (false:Bool)))
def rM (p:au):((List Bool) × Int)→Option (dw ((List Bool) × Int) (Ex (List Bool) (State × Int))):=
 fun zz=>match zz with
 |(s0,t50)=>
 bif (decide (t50<(p.links.length:Int)))then
 eY ((0:Int)≤t50∧t50<(p.links.length:Int)) (
 eY ((0:Int)≤t50∧t50<(s0.length:Int)) (
 some (.next ((s0.set t50.toNat (decide (((at' p.links t50.toNat).kind)=1))),(IntKind.wrap .i64 (t50+1))))))
 else
 some (.done (.brk s0))
def o7 (p:au):Option (State × Int):=
 (dY p).bind fun r_=>
 bif (!decide (r_=0))then
 some ((⟨([]:List Bool),([]:List Bool),([]:List Bool),([]:List Bool),([]:List Bool),([]:List Bool),([]:List Bool)⟩:State),r_)
 else
 (cB (p.links.length:Int)).bind fun r_1=>
 (cB (p.links.length:Int)).bind fun r_2=>
 (cB (p.links.length:Int)).bind fun r_3=>
 (cB (p.sources.length:Int)).bind fun r_4=>
 (cB (p.sources.length:Int)).bind fun r_5=>
 (cB p.buses).bind fun r_6=>
 (cB p.buses).bind fun r_7=>
 Option.bind (aK (rM p) FUEL (r_1,0)) fun o=>match o with
 | .ret v=>some v
 | .brk s01=>
 some ((⟨s01,r_2,r_3,r_4,r_5,r_6,r_7⟩:State),0)
def gX (r_1:(List af)) (t25:Int):((List Bool) × Int)→Option (dw ((List Bool) × Int) (Ex (List Bool) (dw ((List Bool) × Int) (Ex (List Bool) ((List Bool) × Int))))):=
 fun zz=>match zz with
 |(out2,t32)=>
 bif (decide (t32<(((at' r_1 t25.toNat).buses).length:Int)))then
 eY ((0:Int)≤t32∧t32<(((at' r_1 t25.toNat).buses).length:Int)) (
 eY ((0:Int)≤(at' ((at' r_1 t25.toNat).buses) t32.toNat)∧(at' ((at' r_1 t25.toNat).buses) t32.toNat)<(out2.length:Int)) (
 some (.next ((out2.set ((at' ((at' r_1 t25.toNat).buses) t32.toNat).toNat) (decide (0<(((at' r_1 t25.toNat).sources).length:Int)))),(IntKind.wrap .i64 (t32+1))))))
 else
 some (.done (.brk out2))
def gV (r_1:(List af)):((List Bool) × Int)→Option (dw ((List Bool) × Int) (Ex (List Bool) ((List Bool) × Int))):=
 fun zz=>match zz with
 |(out,t25)=>
 bif (decide (t25<(r_1.length:Int)))then
 eY ((0:Int)≤t25∧t25<(r_1.length:Int)) (
 Option.bind (aK (gX r_1 t25) FUEL (out,0)) fun o=>match o with
 | .ret v=>some v
 | .brk out3=>
 some (.next (out3,(IntKind.wrap .i64 (t25+1)))))
 else
 some (.done (.brk out))
def dO (p:au) (s_:State):Option ((List Bool) × Int):=
 (aW p s_).bind fun r_=>
 bif (!decide (r_=0))then
 some (([]:List Bool),r_)
 else
 eY (((0:Int)≤p.buses)∧((1:Int)*p.buses≤281474976710656)∧((p.buses:Int)≤9223372036854775807)) (
 (cO p s_).bind fun r_1=>
 Option.bind (aK (gV r_1) FUEL ((List.replicate p.buses.toNat (false:Bool)),0)) fun o=>match o with
 | .ret v=>some v
 | .brk out1=>
 some (out1,0))
def yQ (p:au) (r_:((List Bool) × Int)):((List aG) × Int)→Option (dw ((List aG) × Int) (Ex (List aG) ((List aG) × Int))):=
 fun zz=>match zz with
 |(out,t26)=>
 bif (decide (t26<(p.racks.length:Int)))then
 eY ((0:Int)≤t26∧t26<(p.racks.length:Int)) (
 eY (gB [((decide (0≤(((at' p.racks t26.toNat).feeds).e0))),true)]=true→(0:Int)≤((at' p.racks t26.toNat).feeds).e0∧((at' p.racks t26.toNat).feeds).e0<(r_.1.length:Int)) (
 eY (gB [((decide (0≤(((at' p.racks t26.toNat).feeds).e1))),true)]=true→(0:Int)≤((at' p.racks t26.toNat).feeds).e1∧((at' p.racks t26.toNat).feeds).e1<(r_.1.length:Int)) (
 eY (((out.length+[(⟨(bif (decide (0≤(((at' p.racks t26.toNat).feeds).e0)))then(at' r_.1 ((((at' p.racks t26.toNat).feeds).e0).toNat))else false),(bif (decide (0≤(((at' p.racks t26.toNat).feeds).e1)))then(at' r_.1 ((((at' p.racks t26.toNat).feeds).e1).toNat))else false)⟩:aG)].length)*2≤140737488355328)∧(out.length+[(⟨(bif (decide (0≤(((at' p.racks t26.toNat).feeds).e0)))then(at' r_.1 ((((at' p.racks t26.toNat).feeds).e0).toNat))else false),(bif (decide (0≤(((at' p.racks t26.toNat).feeds).e1)))then(at' r_.1 ((((at' p.racks t26.toNat).feeds).e1).toNat))else false)⟩:aG)].length≤4611686018427387904)) (
 some (.next ((out++[(⟨(bif (decide (0≤(((at' p.racks t26.toNat).feeds).e0)))then(at' r_.1 ((((at' p.racks t26.toNat).feeds).e0).toNat))else false),(bif (decide (0≤(((at' p.racks t26.toNat).feeds).e1)))then(at' r_.1 ((((at' p.racks t26.toNat).feeds).e1).toNat))else false)⟩:aG)]),(IntKind.wrap .i64 (t26+1))))))))
 else
 some (.done (.brk out))
def wD (p:au) (s_:State):Option ((List aG) × Int):=
 (dO p s_).bind fun r_=>
 bif (!decide (r_.2=0))then
 some (([]:List aG),r_.2)
 else
 Option.bind (aK (yQ p r_) FUEL (([]:List aG),0)) fun o=>match o with
 | .ret v=>some v
 | .brk out1=>
 some (out1,0)
def uJ (a:(List Int)) (b:(List Int)):Int→Option (dw Int (Ex Unit Bool)):=
 fun i=>
 bif (decide (i<(a.length:Int)))then
 eY (((0:Int)≤i∧i<(a.length:Int))∧((0:Int)≤i∧i<(b.length:Int))) (
 bif (!decide ((at' a i.toNat)=(at' b i.toNat)))then
 some (.done (.ret false))
 else
 some (.next (IntKind.wrap .i64 (i+1))))
 else
 some (.done (.brk ()))
def l7 (a:(List Int)) (b:(List Int)):Option Bool:=
 bif (!decide ((a.length:Int)=(b.length:Int)))then
 some false
 else
 Option.bind (aK (uJ a b) FUEL (0)) fun o=>match o with
 | .ret v=>some v
 | .brk _=>
 some true
def oG (a:(List af)) (b:(List af)):Int→Option (dw Int (Ex Unit Bool)):=
 fun i=>
 bif (decide (i<(a.length:Int)))then
 (l7 ((at' a i.toNat).buses) ((at' b i.toNat).buses)).bind fun r_=>
 (bif gB [((!r_),false)]then l7 ((at' a i.toNat).sources) ((at' b i.toNat).sources)else some default).bind fun r_1=>
 eY (((0:Int)≤i∧i<(a.length:Int))∧((0:Int)≤i∧i<(b.length:Int))∧(gB [((!r_),false)]=true→(0:Int)≤i∧i<(a.length:Int))∧(gB [((!r_),false)]=true→(0:Int)≤i∧i<(b.length:Int))) (
 bif (bif (!r_)then true else(!r_1))then
 some (.done (.ret false))
 else
 some (.next (IntKind.wrap .i64 (i+1))))
 else
 some (.done (.brk ()))
def iR (a:(List af)) (b:(List af)):Option Bool:=
 bif (!decide ((a.length:Int)=(b.length:Int)))then
 some false
 else
 Option.bind (aK (oG a b) FUEL (0)) fun o=>match o with
 | .ret v=>some v
 | .brk _=>
 some true
def qj (a:(List ai)) (b:(List ai)):Int→Option (dw Int (Ex Unit Bool)):=
 fun i=>
 bif (decide (i<(a.length:Int)))then
 eY (((0:Int)≤i∧i<(a.length:Int))∧((0:Int)≤i∧i<(b.length:Int))) (
 bif (!((decide (((at' a i.toNat).e0)=((at' b i.toNat).e0))) && ((decide (((at' a i.toNat).e1)=((at' b i.toNat).e1))) && true)))then
 some (.done (.ret false))
 else
 some (.next (IntKind.wrap .i64 (i+1))))
 else
 some (.done (.brk ()))
def mQ (a:(List ai)) (b:(List ai)):Option Bool:=
 bif (!decide ((a.length:Int)=(b.length:Int)))then
 some false
 else
 Option.bind (aK (qj a b) FUEL (0)) fun o=>match o with
 | .ret v=>some v
 | .brk _=>
 some true
def Pv:DV→Int
 | .int _ n=>n
 |_=>0
def fmtS (p:au) (i j:Nat):Int:=Pv (Source.cell (at' p.sources i) j)
def LY (p:au) (i j:Nat):Int:=Pv (Link.cell (at' p.links i) j)
def LM (p:au) (i:Nat):Nat:=(at' p.links i).trip.length
def MF (p:au) (i j:Nat):Int:=Pv (aO.cell (at' p.racks i) j)
def L6 (p:au) (i g j:Nat):Int:=Pv (dR.cell (at' (at' p.links i).trip g) j)
def M5 (p:au):List UInt8:=Jl p.buses p.sources.length p.links.length p.racks.length (fmtS p) (LY p) (MF p) (LM p) (L6 p)
def lQ (p:au):Option (ByteArray × Int):=
 (dY p).bind fun c=>bif decide (c=0)then(bif fmtG p.buses p.sources.length p.links.length p.racks.length (fmtS p) (LY p) (MF p) (LM p) (L6 p)then some (sb (M5 p),0)else none)else none
def j4 (p:au) (s_:State):Option (Int × (List Source) × (List Link) × (List aO) × State):=
 some (p.buses,p.sources,p.links,p.racks,s_)
def lZ (x12:(List Link)) (state:State):((List (Int × Int)) × Int)→Option (dw ((List (Int × Int)) × Int) (Ex (List (Int × Int)) aB)):=
 fun zz=>match zz with
 |(o50,t9)=>
 bif (decide (t9<(x12.length:Int)))then
 eY ((0:Int)≤t9∧t9<(x12.length:Int)) (
 bif (bif (bif (bif (at' state.closed t9.toNat)then(!(at' state.badLink t9.toNat))else false)then(!(at' state.badBus (((at' x12 t9.toNat).a).toNat)))else false)then(!(at' state.badBus (((at' x12 t9.toNat).b).toNat)))else false)then
 (fB ((at' x12 t9.toNat).a) ((at' x12 t9.toNat).b) ((at' x12 t9.toNat).kind) ((at' x12 t9.toNat).most) ((at' x12 t9.toNat).ohm) ((at' x12 t9.toNat).trip) (⟨o50⟩:aB)).bind fun r_=>
 eY (((0:Int)≤t9∧t9<(state.closed.length:Int))∧(gB [((at' state.closed t9.toNat),true)]=true→(0:Int)≤t9∧t9<(state.badLink.length:Int))∧(gB [((bif (at' state.closed t9.toNat)then(!(at' state.badLink t9.toNat))else false),true)]=true→(0:Int)≤(at' x12 t9.toNat).a∧(at' x12 t9.toNat).a<(state.badBus.length:Int))∧(gB [((bif (bif (at' state.closed t9.toNat)then(!(at' state.badLink t9.toNat))else false)then(!(at' state.badBus (((at' x12 t9.toNat).a).toNat)))else false),true)]=true→(0:Int)≤(at' x12 t9.toNat).b∧(at' x12 t9.toNat).b<(state.badBus.length:Int))) (
 some (.next (r_.head,(IntKind.wrap .i64 (t9+1)))))
 else
 eY (((0:Int)≤t9∧t9<(state.closed.length:Int))∧(gB [((at' state.closed t9.toNat),true)]=true→(0:Int)≤t9∧t9<(state.badLink.length:Int))∧(gB [((bif (at' state.closed t9.toNat)then(!(at' state.badLink t9.toNat))else false),true)]=true→(0:Int)≤(at' x12 t9.toNat).a∧(at' x12 t9.toNat).a<(state.badBus.length:Int))∧(gB [((bif (bif (at' state.closed t9.toNat)then(!(at' state.badLink t9.toNat))else false)then(!(at' state.badBus (((at' x12 t9.toNat).a).toNat)))else false),true)]=true→(0:Int)≤(at' x12 t9.toNat).b∧(at' x12 t9.toNat).b<(state.badBus.length:Int))) (
 some (.next (o50,(IntKind.wrap .i64 (t9+1))))))
 else
 some (.done (.brk o50))
def jr (x1:Int) (x11:(List Source)) (x12:(List Link)) (x13:(List aO)) (state:State) (o_:aB):Option aB:=
 Option.bind (aK (lZ x12 state) FUEL (o_.head,0)) fun o=>match o with
 | .ret v=>some v
 | .brk o501=>
 some (⟨o501⟩:aB)
def o8 (p:au) (s_:State) (r_1:aB):((List af) × (List (Int × Int)) × Int)→Option (dw ((List af) × (List (Int × Int)) × Int) (Ex ((List af) × (List (Int × Int))) (List af))):=
 fun zz=>match zz with
 |(out,at_,t32)=>
 bif (decide (t32<p.buses))then
 eY ((0:Int)≤t32∧t32<(s_.badBus.length:Int)) (
 bif (at' s_.badBus t32.toNat)then
 some (.next (out,at_,(IntKind.wrap .i64 (t32+1))))
 else
 (aT r_1 t32).bind fun r_2=>
 bif (!((aJ bg r_2 at_).isSome))then
 eY (((out.length+[(⟨([]:List Int),([]:List Int)⟩:af)].length)*48≤140737488355328)∧(out.length+[(⟨([]:List Int),([]:List Int)⟩:af)].length≤4611686018427387904)) (
 eY (((0:Int)≤((aJ bg r_2 (dU bg r_2 (out.length:Int) at_)).getD 0)∧((aJ bg r_2 (dU bg r_2 (out.length:Int) at_)).getD 0)<((out++[(⟨([]:List Int),([]:List Int)⟩:af)]).length:Int))∧((((at' (out++[(⟨([]:List Int),([]:List Int)⟩:af)]) (((aJ bg r_2 (dU bg r_2 (out.length:Int) at_)).getD 0).toNat)).buses).length+[t32].length)*8≤140737488355328)∧(((at' (out++[(⟨([]:List Int),([]:List Int)⟩:af)]) (((aJ bg r_2 (dU bg r_2 (out.length:Int) at_)).getD 0).toNat)).buses).length+[t32].length≤4611686018427387904)) (
 some (.next (((out++[(⟨([]:List Int),([]:List Int)⟩:af)]).set (((aJ bg r_2 (dU bg r_2 (out.length:Int) at_)).getD 0).toNat) (⟨(((at' (out++[(⟨([]:List Int),([]:List Int)⟩:af)]) (((aJ bg r_2 (dU bg r_2 (out.length:Int) at_)).getD 0).toNat)).buses)++[t32]),(at' (out++[(⟨([]:List Int),([]:List Int)⟩:af)]) (((aJ bg r_2 (dU bg r_2 (out.length:Int) at_)).getD 0).toNat)).sources⟩:af)),(dU bg r_2 (out.length:Int) at_),(IntKind.wrap .i64 (t32+1))))))
 else
 eY (((0:Int)≤((aJ bg r_2 at_).getD 0)∧((aJ bg r_2 at_).getD 0)<(out.length:Int))∧((((at' out (((aJ bg r_2 at_).getD 0).toNat)).buses).length+[t32].length)*8≤140737488355328)∧(((at' out (((aJ bg r_2 at_).getD 0).toNat)).buses).length+[t32].length≤4611686018427387904)) (
 some (.next ((out.set (((aJ bg r_2 at_).getD 0).toNat) (⟨(((at' out (((aJ bg r_2 at_).getD 0).toNat)).buses)++[t32]),(at' out (((aJ bg r_2 at_).getD 0).toNat)).sources⟩:af)),at_,(IntKind.wrap .i64 (t32+1))))))
 else
 some (.done (.brk (out,at_)))
def pu (p:au) (s_:State) (r_1:aB) (at_1:(List (Int × Int))):((List af) × Int)→Option (dw ((List af) × Int) (Ex (List af) (List af))):=
 fun zz=>match zz with
 |(out2,t78)=>
 bif (decide (t78<(p.sources.length:Int)))then
 eY ((0:Int)≤t78∧t78<(p.sources.length:Int)) (
 eY (((0:Int)≤t78∧t78<(s_.on_.length:Int))∧(gB [((at' s_.on_ t78.toNat),true)]=true→(0:Int)≤t78∧t78<(s_.badSource.length:Int))∧(gB [((bif (at' s_.on_ t78.toNat)then(!(at' s_.badSource t78.toNat))else false),true)]=true→(0:Int)≤(at' p.sources t78.toNat).bus∧(at' p.sources t78.toNat).bus<(s_.badBus.length:Int))) (
 bif (bif (bif (at' s_.on_ t78.toNat)then(!(at' s_.badSource t78.toNat))else false)then(!(at' s_.badBus (((at' p.sources t78.toNat).bus).toNat)))else false)then
 (aT r_1 ((at' p.sources t78.toNat).bus)).bind fun r_3=>
 eY (((0:Int)≤((aJ bg r_3 at_1).getD 0)∧((aJ bg r_3 at_1).getD 0)<(out2.length:Int))∧((((at' out2 (((aJ bg r_3 at_1).getD 0).toNat)).sources).length+[t78].length)*8≤140737488355328)∧(((at' out2 (((aJ bg r_3 at_1).getD 0).toNat)).sources).length+[t78].length≤4611686018427387904)) (
 some (.next ((out2.set (((aJ bg r_3 at_1).getD 0).toNat) (⟨(at' out2 (((aJ bg r_3 at_1).getD 0).toNat)).buses,(((at' out2 (((aJ bg r_3 at_1).getD 0).toNat)).sources)++[t78])⟩:af)),(IntKind.wrap .i64 (t78+1)))))
 else
 some (.next (out2,(IntKind.wrap .i64 (t78+1))))))
 else
 some (.done (.brk out2))
def gL (p:au) (s_:State):Option (List af):=
 (j4 p s_).bind fun r_=>
 (jr r_.1 r_.2.1 r_.2.2.1 r_.2.2.2.1 s_ (⟨([]:(List (Int × Int)))⟩:aB)).bind fun r_1=>
 Option.bind (aK (o8 p s_ r_1) FUEL (([]:List af),([]:(List (Int × Int))),0)) fun o=>match o with
 | .ret v=>some v
 | .brk (out1,at_1)=>
 Option.bind (aK (pu p s_ r_1 at_1) FUEL (out1,0)) fun o=>match o with
 | .ret v=>some v
 | .brk out3=>
 some out3
def mr (p:au) (s_:State):Option ((List af) × Int):=
 (aW p s_).bind fun r_=>
 bif (!decide (r_=0))then
 some (([]:List af),r_)
 else
 (gL p s_).bind fun r_1=>
 some (r_1,0)
def sP (r_1:(List af)) (t25:Int):((List Bool) × Int)→Option (dw ((List Bool) × Int) (Ex (List Bool) (dw ((List Bool) × Int) (Ex (List Bool) ((List Bool) × Int))))):=
 fun zz=>match zz with
 |(out2,t32)=>
 bif (decide (t32<(((at' r_1 t25.toNat).buses).length:Int)))then
 eY ((0:Int)≤t32∧t32<(((at' r_1 t25.toNat).buses).length:Int)) (
 eY ((0:Int)≤(at' ((at' r_1 t25.toNat).buses) t32.toNat)∧(at' ((at' r_1 t25.toNat).buses) t32.toNat)<(out2.length:Int)) (
 some (.next ((out2.set ((at' ((at' r_1 t25.toNat).buses) t32.toNat).toNat) (decide (0<(((at' r_1 t25.toNat).sources).length:Int)))),(IntKind.wrap .i64 (t32+1))))))
 else
 some (.done (.brk out2))
def sG (r_1:(List af)):((List Bool) × Int)→Option (dw ((List Bool) × Int) (Ex (List Bool) ((List Bool) × Int))):=
 fun zz=>match zz with
 |(out,t25)=>
 bif (decide (t25<(r_1.length:Int)))then
 eY ((0:Int)≤t25∧t25<(r_1.length:Int)) (
 Option.bind (aK (sP r_1 t25) FUEL (out,0)) fun o=>match o with
 | .ret v=>some v
 | .brk out3=>
 some (.next (out3,(IntKind.wrap .i64 (t25+1)))))
 else
 some (.done (.brk out))
def o6 (p:au) (s_:State):Option ((List Bool) × Int):=
 (aW p s_).bind fun r_=>
 bif (!decide (r_=0))then
 some (([]:List Bool),r_)
 else
 eY (((0:Int)≤p.buses)∧((1:Int)*p.buses≤281474976710656)∧((p.buses:Int)≤9223372036854775807)) (
 (gL p s_).bind fun r_1=>
 Option.bind (aK (sG r_1) FUEL ((List.replicate p.buses.toNat (false:Bool)),0)) fun o=>match o with
 | .ret v=>some v
 | .brk out1=>
 some (out1,0))
def tY (p:au) (r_:((List Bool) × Int)):((List aG) × Int)→Option (dw ((List aG) × Int) (Ex (List aG) ((List aG) × Int))):=
 fun zz=>match zz with
 |(out,t26)=>
 bif (decide (t26<(p.racks.length:Int)))then
 eY ((0:Int)≤t26∧t26<(p.racks.length:Int)) (
 eY (gB [((decide (0≤(((at' p.racks t26.toNat).feeds).e0))),true)]=true→(0:Int)≤((at' p.racks t26.toNat).feeds).e0∧((at' p.racks t26.toNat).feeds).e0<(r_.1.length:Int)) (
 eY (gB [((decide (0≤(((at' p.racks t26.toNat).feeds).e1))),true)]=true→(0:Int)≤((at' p.racks t26.toNat).feeds).e1∧((at' p.racks t26.toNat).feeds).e1<(r_.1.length:Int)) (
 eY (((out.length+[(⟨(bif (decide (0≤(((at' p.racks t26.toNat).feeds).e0)))then(at' r_.1 ((((at' p.racks t26.toNat).feeds).e0).toNat))else false),(bif (decide (0≤(((at' p.racks t26.toNat).feeds).e1)))then(at' r_.1 ((((at' p.racks t26.toNat).feeds).e1).toNat))else false)⟩:aG)].length)*2≤140737488355328)∧(out.length+[(⟨(bif (decide (0≤(((at' p.racks t26.toNat).feeds).e0)))then(at' r_.1 ((((at' p.racks t26.toNat).feeds).e0).toNat))else false),(bif (decide (0≤(((at' p.racks t26.toNat).feeds).e1)))then(at' r_.1 ((((at' p.racks t26.toNat).feeds).e1).toNat))else false)⟩:aG)].length≤4611686018427387904)) (
 some (.next ((out++[(⟨(bif (decide (0≤(((at' p.racks t26.toNat).feeds).e0)))then(at' r_.1 ((((at' p.racks t26.toNat).feeds).e0).toNat))else false),(bif (decide (0≤(((at' p.racks t26.toNat).feeds).e1)))then(at' r_.1 ((((at' p.racks t26.toNat).feeds).e1).toNat))else false)⟩:aG)]),(IntKind.wrap .i64 (t26+1))))))))
 else
 some (.done (.brk out))
def qp (p:au) (s_:State):Option ((List aG) × Int):=
 (o6 p s_).bind fun r_=>
 bif (!decide (r_.2=0))then
 some (([]:List aG),r_.2)
 else
 Option.bind (aK (tY p r_) FUEL (([]:List aG),0)) fun o=>match o with
 | .ret v=>some v
 | .brk out1=>
 some (out1,0)
def dL:Option Bool:=
 (oU).bind fun r_=>
 (o7 r_).bind fun r_1=>
 bif (bif (bif (bif (!decide (r_1.2=0))then true else(!decide ((r_1.1.on_.length:Int)=2)))then true else(!decide ((r_1.1.closed.length:Int)=2)))then true else(!decide ((r_1.1.badBus.length:Int)=3)))then
 some false
 else
 (mr r_ (⟨[true,false],r_1.1.locked,r_1.1.badLink,[true,true],r_1.1.badSource,r_1.1.earthed,r_1.1.badBus⟩:State)).bind fun r_2=>
 (qp r_ (⟨[true,false],r_1.1.locked,r_1.1.badLink,[true,true],r_1.1.badSource,r_1.1.earthed,r_1.1.badBus⟩:State)).bind fun r_3=>
 bif (bif (bif (bif (!decide (r_2.2=0))then true else(!decide (r_3.2=0)))then true else(!decide ((r_3.1.length:Int)=1)))then true else(!((at' r_3.1 0).e0)))then
 eY (gB [((bif (bif (!decide (r_2.2=0))then true else(!decide (r_3.2=0)))then true else(!decide ((r_3.1.length:Int)=1))),false)]=true→(0:Int)≤0∧0<(r_3.1.length:Int)) (
 some false)
 else
 (iR r_2.1 [(⟨[0,1],[0]⟩:af),(⟨[2],[1]⟩:af)]).bind fun r_4=>
 eY (gB [((bif (bif (!decide (r_2.2=0))then true else(!decide (r_3.2=0)))then true else(!decide ((r_3.1.length:Int)=1))),false)]=true→(0:Int)≤0∧0<(r_3.1.length:Int)) (
 bif (!r_4)then
 some false
 else
 eY ((0:Int)≤1∧1<([true,false].length:Int)) (
 (fq r_ (⟨([true,false].set 1 true),r_1.1.locked,r_1.1.badLink,[true,true],r_1.1.badSource,r_1.1.earthed,r_1.1.badBus⟩:State)).bind fun r_5=>
 (iX r_ (⟨([true,false].set 1 true),r_1.1.locked,r_1.1.badLink,[true,true],r_1.1.badSource,r_1.1.earthed,r_1.1.badBus⟩:State) (⟨3,0⟩:Part)).bind fun r_6=>
 (oZ r_ r_6.1).bind fun r_7=>
 bif (bif (bif (!decide (r_5.2=0))then true else(!decide (r_6.2=0)))then true else(!decide (r_7.2=0)))then
 some false
 else
 (mQ r_5.1 [(⟨0,1⟩:ai)]).bind fun r_8=>
 bif (!r_8)then
 some false
 else
 (iR r_7.1 [(⟨[0],[0]⟩:af),(⟨[1,2],[1]⟩:af)]).bind fun r_9=>
 bif (!r_9)then
 some false
 else
 (iX r_ (⟨([true,false].set 1 true),r_1.1.locked,r_1.1.badLink,[true,true],r_1.1.badSource,r_1.1.earthed,r_1.1.badBus⟩:State) (⟨1,1⟩:Part)).bind fun r_10=>
 (wD r_ r_10.1).bind fun r_11=>
 (lQ r_).bind fun r_12=>
 eY (gB [((bif (bif (bif (decide (r_10.2=0))then(decide (r_11.2=0))else false)then(decide (r_12.2=0))else false)then(decide ((r_11.1.length:Int)=1))else false),true)]=true→(0:Int)≤0∧0<(r_11.1.length:Int)) (
 some (bif (bif (bif (bif (bif (decide (r_10.2=0))then(decide (r_11.2=0))else false)then(decide (r_12.2=0))else false)then(decide ((r_11.1.length:Int)=1))else false)then(!((at' r_11.1 0).e0))else false)then((r_12.1:ByteArray).toList==(⟨#[112,108,97,110,116,32,51,10,115,111,117,114,99,101,32,48,32,103,114,105,100,32,53,48,48,32,48,32,50,48,10,115,111,117,114,99,101,32,50,32,103,101,110,101,114,97,116,111,114,32,51,48,48,32,48,32,52,48,10,108,105,110,107,32,48,32,49,32,98,114,101,97,107,101,114,32,52,48,48,32,49,48,32,49,48,48,48,58,52,48,48,32,53,48,48,48,58,53,48,10,108,105,110,107,32,49,32,50,32,98,114,101,97,107,101,114,32,52,48,48,32,49,48,10,114,97,99,107,32,49,32,45,49,32,49,48,48,32,49,10]⟩:ByteArray).toList)else false))))
def fU (p:au) (t24:Int):((List Part) × Int)→Option (dw ((List Part) × Int) (Ex (List Part) (dw ((List Part) × Int) (Ex (List Part) ((List Part) × Int))))):=
 fun zz=>match zz with
 |(out2,t30)=>
 bif (decide (t30<(at' [p.buses,(p.sources.length:Int),(p.links.length:Int)] t24.toNat)))then
 eY (((out2.length+[(⟨(IntKind.wrap .i64 (t24+1)),t30⟩:Part)].length)*16≤140737488355328)∧(out2.length+[(⟨(IntKind.wrap .i64 (t24+1)),t30⟩:Part)].length≤4611686018427387904)) (
 some (.next ((out2++[(⟨(IntKind.wrap .i64 (t24+1)),t30⟩:Part)]),(IntKind.wrap .i64 (t30+1)))))
 else
 some (.done (.brk out2))
def dZ (p:au):((List Part) × Int)→Option (dw ((List Part) × Int) (Ex (List Part) ((List Part) × Int))):=
 fun zz=>match zz with
 |(out,t24)=>
 bif (decide (t24<([p.buses,(p.sources.length:Int),(p.links.length:Int)].length:Int)))then
 eY ((0:Int)≤t24∧t24<([p.buses,(p.sources.length:Int),(p.links.length:Int)].length:Int)) (
 Option.bind (aK (fU p t24) FUEL (out,0)) fun o=>match o with
 | .ret v=>some v
 | .brk out3=>
 some (.next (out3,(IntKind.wrap .i64 (t24+1)))))
 else
 some (.done (.brk out))
def kI (p:au):Option ((List Part) × Int):=
 (dY p).bind fun r_=>
 bif (!decide (r_=0))then
 some (([]:List Part),r_)
 else
 Option.bind (aK (dZ p) FUEL (([]:List Part),0)) fun o=>match o with
 | .ret v=>some v
 | .brk out1=>
 some (out1,0)
def jg (x:Int) (n:Int):Option Int:=
 bif (decide (n<1))then
 some 0
 else
 eY (n≠(0:Int)) (
 bif (decide ((Int.tmod x n)<0))then
 some (IntKind.wrap .i64 ((Int.tmod x n)+n))
 else
 some (Int.tmod x n))
def oC (p:au) (s_:State) (x:Part):Option (State × Int):=
 (fV p s_ x false).bind fun r_=>
 some (r_.1,r_.2)
def fT (a:(List Bool)) (b:(List Bool)):Int→Option (dw Int (Ex Unit Bool)):=
 fun i=>
 bif (decide (i<(a.length:Int)))then
 eY (((0:Int)≤i∧i<(a.length:Int))∧((0:Int)≤i∧i<(b.length:Int))) (
 bif (!((at' a i.toNat)==(at' b i.toNat)))then
 some (.done (.ret false))
 else
 some (.next (IntKind.wrap .i64 (i+1))))
 else
 some (.done (.brk ()))
def bL (a:(List Bool)) (b:(List Bool)):Option Bool:=
 bif (!decide ((a.length:Int)=(b.length:Int)))then
 some false
 else
 Option.bind (aK (fT a b) FUEL (0)) fun o=>match o with
 | .ret v=>some v
 | .brk _=>
 some true
def gU (a:State) (b:State):Option Bool:=
 (bL a.closed b.closed).bind fun r_=>
 (bif gB [(r_,true)]then bL a.locked b.locked else some default).bind fun r_1=>
 (bif gB [((bif r_ then r_1 else false),true)]then bL a.badLink b.badLink else some default).bind fun r_2=>
 (bif gB [((bif (bif r_ then r_1 else false)then r_2 else false),true)]then bL a.on_ b.on_ else some default).bind fun r_3=>
 (bif gB [((bif (bif (bif r_ then r_1 else false)then r_2 else false)then r_3 else false),true)]then bL a.badSource b.badSource else some default).bind fun r_4=>
 (bif gB [((bif (bif (bif (bif r_ then r_1 else false)then r_2 else false)then r_3 else false)then r_4 else false),true)]then bL a.earthed b.earthed else some default).bind fun r_5=>
 (bif gB [((bif (bif (bif (bif (bif r_ then r_1 else false)then r_2 else false)then r_3 else false)then r_4 else false)then r_5 else false),true)]then bL a.badBus b.badBus else some default).bind fun r_6=>
 some (bif (bif (bif (bif (bif (bif r_ then r_1 else false)then r_2 else false)then r_3 else false)then r_4 else false)then r_5 else false)then r_6 else false)
def bK (l:(List Bool)):Option (List Bool):=
 eY ((l.length*1≤140737488355328)∧(l.length≤4611686018427387904)) (
 some l)
def fo (x:State):Option State:=
 (bK x.closed).bind fun r_=>
 (bK x.locked).bind fun r_1=>
 (bK x.badLink).bind fun r_2=>
 (bK x.on_).bind fun r_3=>
 (bK x.badSource).bind fun r_4=>
 (bK x.earthed).bind fun r_5=>
 (bK x.badBus).bind fun r_6=>
 some (⟨r_,r_1,r_2,r_3,r_4,r_5,r_6⟩:State)
def dH (r_7:((List Bool) × Int)) (r_8:((List Bool) × Int)):Int→Option (dw Int (Ex Unit Bool)):=
 fun i=>
 bif (decide (i<(r_8.1.length:Int)))then
 eY (((0:Int)≤i∧i<(r_8.1.length:Int))∧(gB [((at' r_8.1 i.toNat),true)]=true→(0:Int)≤i∧i<(r_7.1.length:Int))) (
 bif (bif (at' r_8.1 i.toNat)then(!(at' r_7.1 i.toNat))else false)then
 some (.done (.ret false))
 else
 some (.next (IntKind.wrap .i64 (i+1))))
 else
 some (.done (.brk ()))
def dD (r_9:((List ai) × Int)) (r_10:((List ai) × Int)) (i1:Int):(Bool × Int)→Option (dw (Bool × Int) (Ex Bool (dw Int (Ex Unit Bool)))):=
 fun zz=>match zz with
 |(found,j)=>
 bif (decide (j<(r_9.1.length:Int)))then
 eY ((gB [(found,false)]=true→(0:Int)≤j∧j<(r_9.1.length:Int))∧(gB [(found,false)]=true→(0:Int)≤i1∧i1<(r_10.1.length:Int))) (
 some (.next ((bif found then true else((decide (((at' r_9.1 j.toNat).e0)=((at' r_10.1 i1.toNat).e0))) && ((decide (((at' r_9.1 j.toNat).e1)=((at' r_10.1 i1.toNat).e1))) && true))),(IntKind.wrap .i64 (j+1)))))
 else
 some (.done (.brk found))
def dF (r_9:((List ai) × Int)) (r_10:((List ai) × Int)):Int→Option (dw Int (Ex Unit Bool)):=
 fun i1=>
 bif (decide (i1<(r_10.1.length:Int)))then
 Option.bind (aK (dD r_9 r_10 i1) FUEL (false,0)) fun o=>match o with
 | .ret v=>some v
 | .brk found1=>
 bif (!found1)then
 some (.done (.ret false))
 else
 some (.next (IntKind.wrap .i64 (i1+1)))
 else
 some (.done (.brk ()))
def bM (r_7:((List Bool) × Int)) (r_15:((List Bool) × Int)):Int→Option (dw Int (Ex Unit Bool)):=
 fun i2=>
 bif (decide (i2<(r_15.1.length:Int)))then
 eY (((0:Int)≤i2∧i2<(r_7.1.length:Int))∧(gB [((at' r_7.1 i2.toNat),true)]=true→(0:Int)≤i2∧i2<(r_15.1.length:Int))) (
 bif (bif (at' r_7.1 i2.toNat)then(!(at' r_15.1 i2.toNat))else false)then
 some (.done (.ret false))
 else
 some (.next (IntKind.wrap .i64 (i2+1))))
 else
 some (.done (.brk ()))
def gH (p:au) (s_:State) (n:Int) (kz:Int):Option Bool:=
 (mI p).bind fun r_=>
 (bif gB [(r_,false)]then aW p s_ else some default).bind fun r_1=>
 bif (bif r_ then true else(!decide (r_1=0)))then
 (dL).bind fun r_2=>
 some r_2
 else
 (kI p).bind fun r_3=>
 bif (bif (!decide (r_3.2=0))then true else(!decide ((r_3.1.length:Int)=(IntKind.wrap .i64 ((IntKind.wrap .i64 (p.buses+(p.sources.length:Int)))+(p.links.length:Int))))))then
 some false
 else
 (jg n (r_3.1.length:Int)).bind fun r_4=>
 eY ((0:Int)≤r_4∧r_4<(r_3.1.length:Int)) (
 (iX p s_ (at' r_3.1 r_4.toNat)).bind fun r_5=>
 (bif gB [((!decide (r_5.2=0)),false)]then aW p r_5.1 else some default).bind fun r_6=>
 bif (bif (!decide (r_5.2=0))then true else(!decide (r_6=0)))then
 some false
 else
 (dO p s_).bind fun r_7=>
 (dO p r_5.1).bind fun r_8=>
 (fq p s_).bind fun r_9=>
 (fq p r_5.1).bind fun r_10=>
 bif (bif (bif (bif (bif (!decide (r_7.2=0))then true else(!decide (r_8.2=0)))then true else(!decide (r_9.2=0)))then true else(!decide (r_10.2=0)))then true else(!decide ((r_7.1.length:Int)=(r_8.1.length:Int))))then
 some false
 else
 Option.bind (aK (dH r_7 r_8) FUEL (0)) fun o=>match o with
 | .ret v=>some v
 | .brk _=>
 Option.bind (aK (dF r_9 r_10) FUEL (0)) fun o=>match o with
 | .ret v=>some v
 | .brk _=>
 (oC p r_5.1 (at' r_3.1 r_4.toNat)).bind fun r_11=>
 eY ((gB [((decide (((at' r_3.1 r_4.toNat).kind)=1)),true)]=true→(0:Int)≤(at' r_3.1 r_4.toNat).index∧(at' r_3.1 r_4.toNat).index<(s_.badBus.length:Int))∧(gB [((decide (((at' r_3.1 r_4.toNat).kind)=2)),true),((bif (decide (((at' r_3.1 r_4.toNat).kind)=1))then(at' s_.badBus (((at' r_3.1 r_4.toNat).index).toNat))else false),false)]=true→(0:Int)≤(at' r_3.1 r_4.toNat).index∧(at' r_3.1 r_4.toNat).index<(s_.badSource.length:Int))∧(gB [((decide (((at' r_3.1 r_4.toNat).kind)=3)),true),((bif (bif (decide (((at' r_3.1 r_4.toNat).kind)=1))then(at' s_.badBus (((at' r_3.1 r_4.toNat).index).toNat))else false)then true else(bif (decide (((at' r_3.1 r_4.toNat).kind)=2))then(at' s_.badSource (((at' r_3.1 r_4.toNat).index).toNat))else false)),false)]=true→(0:Int)≤(at' r_3.1 r_4.toNat).index∧(at' r_3.1 r_4.toNat).index<(s_.badLink.length:Int))) (
 (bif gB [((!(bif (bif (bif (decide (((at' r_3.1 r_4.toNat).kind)=1))then(at' s_.badBus (((at' r_3.1 r_4.toNat).index).toNat))else false)then true else(bif (decide (((at' r_3.1 r_4.toNat).kind)=2))then(at' s_.badSource (((at' r_3.1 r_4.toNat).index).toNat))else false))then true else(bif (decide (((at' r_3.1 r_4.toNat).kind)=3))then(at' s_.badLink (((at' r_3.1 r_4.toNat).index).toNat))else false))),true),((!decide (r_11.2=0)),false)]then gU r_11.1 s_ else some default).bind fun r_12=>
 bif (bif (!decide (r_11.2=0))then true else(bif (!(bif (bif (bif (decide (((at' r_3.1 r_4.toNat).kind)=1))then(at' s_.badBus (((at' r_3.1 r_4.toNat).index).toNat))else false)then true else(bif (decide (((at' r_3.1 r_4.toNat).kind)=2))then(at' s_.badSource (((at' r_3.1 r_4.toNat).index).toNat))else false))then true else(bif (decide (((at' r_3.1 r_4.toNat).kind)=3))then(at' s_.badLink (((at' r_3.1 r_4.toNat).index).toNat))else false)))then(!r_12)else false))then
 some false
 else
 bif (decide (0<(p.links.length:Int)))then
 (jg kz (p.links.length:Int)).bind fun r_13=>
 (fo s_).bind fun r_14=>
 eY ((0:Int)≤r_13∧r_13<(r_14.closed.length:Int)) (
 (dO p (⟨(r_14.closed.set r_13.toNat true),r_14.locked,r_14.badLink,r_14.on_,r_14.badSource,r_14.earthed,r_14.badBus⟩:State)).bind fun r_15=>
 bif (bif (!decide (r_15.2=0))then true else(!decide ((r_15.1.length:Int)=(r_7.1.length:Int))))then
 some false
 else
 Option.bind (aK (bM r_7 r_15) FUEL (0)) fun o=>match o with
 | .ret v=>some v
 | .brk _=>
 (dL).bind fun r_16=>
 some r_16)
 else
 (dL).bind fun r_17=>
 some r_17))
end Sg
