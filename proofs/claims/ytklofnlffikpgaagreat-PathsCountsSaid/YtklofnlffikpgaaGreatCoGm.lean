import Derived.Test.YtklofnlffikpgaaGreatCoLd
set_option linter.all false
namespace Sg
open Go
structure Source where
 bus:Int
 kind:Int
 power:Int
 bp:Int
 ohm:Int
instance:Inhabited Source:=⟨⟨default,default,default,default,default⟩⟩
def Source.cell (x:Source):Nat->DV
 |0=>(.int .i64 x.bus)
 |1=>(.int .i64 x.kind)
 |2=>(.int .i64 x.power)
 |3=>(.int .i64 x.bp)
 |4=>(.int .i64 x.ohm)
 |_=> .nilp
structure kJ where
 br:Int
 bj:Int
instance:Inhabited kJ:=⟨⟨default,default⟩⟩
def kJ.cell (x:kJ):Nat->DV
 |0=>(.int .i64 x.br)
 |1=>(.int .i64 x.bj)
 |_=> .nilp
structure Link where
 a:Int
 b:Int
 kind:Int
 most:Int
 ohm:Int
 trip:(List kJ)
instance:Inhabited Link:=⟨⟨default,default,default,default,default,default⟩⟩
def Link.cell (x:Link):Nat->DV
 |0=>(.int .i64 x.a)
 |1=>(.int .i64 x.b)
 |2=>(.int .i64 x.kind)
 |3=>(.int .i64 x.most)
 |4=>(.int .i64 x.ohm)
 |5=>(aZ none 2 kJ.cell x.trip)
 |_=> .nilp
structure aB where
 e0:Int
 e1:Int
instance:Inhabited aB:=⟨⟨default,default⟩⟩
def aB.cell (x:aB):Nat->DV
 |0=>(.int .i64 x.e0)
 |1=>(.int .i64 x.e1)
 |_=> .nilp
structure aL where
 ba:aB
 power:Int
 bm:Int
instance:Inhabited aL:=⟨⟨default,default,default⟩⟩
def aL.cell (x:aL):Nat->DV
 |0=>(.int .i64 x.ba.e0)
 |1=>(.int .i64 x.ba.e1)
 |2=>(.int .i64 x.power)
 |3=>(.int .i64 x.bm)
 |_=> .nilp
structure ah where
 ap:Int
 aa:(List Source)
 ae:(List Link)
 a_:(List aL)
instance:Inhabited ah:=⟨⟨default,default,default,default⟩⟩
def ah.cell (x:ah):Nat->DV
 |0=>(.int .i64 x.ap)
 |1=>(aZ none 5 Source.cell x.aa)
 |2=>(aZ none 6 Link.cell x.ae)
 |3=>(aZ none 4 aL.cell x.a_)
 |_=> .nilp
structure State where
 aq:(List Bool)
 aw:(List Bool)
 am:(List Bool)
 on_:(List Bool)
 ag:(List Bool)
 ar:(List Bool)
 al:(List Bool)
instance:Inhabited State:=⟨⟨default,default,default,default,default,default,default⟩⟩
def State.cell (x:State):Nat->DV
 |0=>(aZ none 1 af x.aq)
 |1=>(aZ none 1 af x.aw)
 |2=>(aZ none 1 af x.am)
 |3=>(aZ none 1 af x.on_)
 |4=>(aZ none 1 af x.ag)
 |5=>(aZ none 1 af x.ar)
 |6=>(aZ none 1 af x.al)
 |_=> .nilp
structure cK where
 l:(List Bool)
 n:Int
instance:Inhabited cK:=⟨⟨default,default⟩⟩
def cK.cell (x:cK):Nat->DV
 |0=>(aZ none 1 af x.l)
 |1=>(.int .i64 x.n)
 |_=> .nilp
structure Transfer where
 bi:Int
 open_:Int
 close:Int
instance:Inhabited Transfer:=⟨⟨default,default,default⟩⟩
def Transfer.cell (x:Transfer):Nat->DV
 |0=>(.int .i64 x.bi)
 |1=>(.int .i64 x.open_)
 |2=>(.int .i64 x.close)
 |_=> .nilp
structure aY where
 bk:(List (Int × Int))
instance:Inhabited aY:=⟨⟨default⟩⟩
def aY.cell (x:aY):Nat->DV
 |0=> .nilp
 |_=> .nilp
structure aI where
 ap:(List Int)
 aa:(List Int)
instance:Inhabited aI:=⟨⟨default,default⟩⟩
def aI.cell (x:aI):Nat->DV
 |0=>(aZ none 1 (aH .i64) x.ap)
 |1=>(aZ none 1 (aH .i64) x.aa)
 |_=> .nilp
structure Part where
 kind:Int
 index:Int
instance:Inhabited Part:=⟨⟨default,default⟩⟩
def Part.cell (x:Part):Nat->DV
 |0=>(.int .i64 x.kind)
 |1=>(.int .i64 x.index)
 |_=> .nilp
structure aD where
 e0:(List (Int × (List Int)))
 e1:(List (Int × (List Int)))
instance:Inhabited aD:=⟨⟨default,default⟩⟩
def aD.cell (x:aD):Nat->DV
 |0=> .nilp
 |1=> .nilp
 |_=> .nilp
structure Graph where
 bh:(List Part)
 aG:aD
instance:Inhabited Graph:=⟨⟨default,default⟩⟩
def Graph.cell (x:Graph):Nat->DV
 |0=>(aZ none 2 Part.cell x.bh)
 |1=> .nilp
 |2=> .nilp
 |_=> .nilp
structure aQ where
 e0:Bool
 e1:Bool
instance:Inhabited aQ:=⟨⟨default,default⟩⟩
def aQ.cell (x:aQ):Nat->DV
 |0=>(.bool x.e0)
 |1=>(.bool x.e1)
 |_=> .nilp
def aI.ev (x:aI):Nat->EV
 |0=> .row 3 1 x.ap.length (aj (aH .i64) x.ap)
 |1=> .row 3 1 x.aa.length (aj (aH .i64) x.aa)
 |_=> .d .nilp
def aR (n:Int) (first:Int) (last:Int):Option Bool:=
 some (bif (decide (first<=n))then(decide (n<=last))else false)
def uE (p:ah):Option (Int × (List Source) × (List Link) × (List aL)):=
 some (p.ap,p.aa,p.ae,p.a_)
def xC (p:ah):Option (Int × (List Source) × (List Link) × (List aL)):=
 some (p.ap,p.aa,p.ae,p.a_)
def xR (p:ah):Option (Int × (List Source) × (List Link) × (List aL)):=
 some (p.ap,p.aa,p.ae,p.a_)
def ny (x:Source) (x1:Int) (x11:List Source) (x12:List Link) (x13:List aL):Option Bool:=
 (aR x.bus 0 (IntKind.wrap .i64 (x1 - 1))).bind fun r_=>
 (bif gB [(r_,true)]then aR x.kind 1 3 else some default).bind fun r_1=>
 (bif gB [((bif r_ then r_1 else false),true)]then aR x.power 1 100000 else some default).bind fun r_2=>
 (bif gB [((bif (bif r_ then r_1 else false)then r_2 else false),true)]then aR x.bp 0 8 else some default).bind fun r_3=>
 (bif gB [((bif (bif (bif r_ then r_1 else false)then r_2 else false)then r_3 else false),true)]then aR x.ohm 10 100000 else some default).bind fun r_4=>
 some (bif (bif (bif (bif r_ then r_1 else false)then r_2 else false)then r_3 else false)then r_4 else false)
def uK (x:Source) (x1:Int) (x11:List Source) (x12:List Link) (x13:List aL):Option Bool:=
 (ny x x1 x11 x12 x13).bind fun r_=>
 some (!r_)
def lV (s_:List Source) (f_:Int) (f_1:List Source) (f_2:List Link) (f_3:List aL):Int->Option (aV Int (Ex Unit Int)):=
 fun t8=>
 bif (decide (t8<(s_.length:Int)))then
 (uK (at' s_ t8.toNat) f_ f_1 f_2 f_3).bind fun r_=>
 bC ((0:Int)<=t8/\t8<(s_.length:Int)) (
 bif r_ then
 some (.done (.ret t8))
 else
 some (.next (IntKind.wrap .i64 (t8+1))))
 else
 some (.done (.brk ()))
def oK (s_:List Source) (f_:Int) (f_1:List Source) (f_2:List Link) (f_3:List aL):Option Int:=
 Option.bind (ay (lV s_ f_ f_1 f_2 f_3) FUEL (0)) fun o=>match o with
 | .ret v=>some v
 | .brk _=>
 some (-1)
def iY (s_:List Source) (f_:Int) (f_1:List Source) (f_2:List Link) (f_3:List aL):Option Bool:=
 (oK s_ f_ f_1 f_2 f_3).bind fun r_=>
 some (decide (0<=r_))
def sS (l:List Source) (most:Int) (right:Int) (right1:List Source) (right2:List Link) (right3:List aL):Option Bool:=
 (bif gB [(decide ((l.length:Int)<=most),true)]then iY l right right1 right2 right3 else some default).bind fun r_=>
 some (bif (decide ((l.length:Int)<=most))then(!r_)else false)
def l9 (x:Link):Int->Option (aV Int (Ex Unit Bool)):=
 fun t50=>
 bif (decide (t50<(x.trip.length:Int)))then
 bC ((0:Int)<=t50/\t50<(x.trip.length:Int)) (
 (aR ((at' x.trip t50.toNat).br) 1 1000000).bind fun r_5=>
 (bif gB [(!r_5,false)]then aR ((at' x.trip t50.toNat).bj) 1 100000 else some default).bind fun r_6=>
 bC ((gB [(decide (0<t50),true),((bif (!r_5)then true else(!r_6)),false)]=true->(0:Int)<=(IntKind.wrap .i64 (t50 - 1))/\(IntKind.wrap .i64 (t50 - 1))<(x.trip.length:Int))/\(gB [(decide (((at' x.trip t50.toNat).br)<=((at' x.trip ((IntKind.wrap .i64 (t50 - 1)).toNat)).br)),false),(decide (0<t50),true),((bif (!r_5)then true else(!r_6)),false)]=true->(0:Int)<=(IntKind.wrap .i64 (t50 - 1))/\(IntKind.wrap .i64 (t50 - 1))<(x.trip.length:Int))) (
 bif (bif (bif (!r_5)then true else(!r_6))then true else(bif (decide (0<t50))then(bif (decide (((at' x.trip t50.toNat).br)<=((at' x.trip ((IntKind.wrap .i64 (t50 - 1)).toNat)).br)))then true else(decide (((at' x.trip ((IntKind.wrap .i64 (t50 - 1)).toNat)).bj)<=((at' x.trip t50.toNat).bj))))else false))then
 some (.done (.ret false))
 else
 some (.next (IntKind.wrap .i64 (t50+1)))))
 else
 some (.done (.brk ()))
def qo (x:Link) (x1:Int) (x11:List Source) (x12:List Link) (x13:List aL):Option Bool:=
 (aR x.a 0 (IntKind.wrap .i64 (x1 - 1))).bind fun r_=>
 (bif gB [(!r_,false)]then aR x.b 0 (IntKind.wrap .i64 (x1 - 1))else some default).bind fun r_1=>
 (bif gB [((bif (bif (!r_)then true else(!r_1))then true else(decide (x.a=x.b))),false)]then aR x.kind 1 3 else some default).bind fun r_2=>
 (bif gB [((bif (bif (bif (!r_)then true else(!r_1))then true else(decide (x.a=x.b)))then true else(!r_2)),false)]then aR x.most 1 100000 else some default).bind fun r_3=>
 (bif gB [((bif (bif (bif (bif (!r_)then true else(!r_1))then true else(decide (x.a=x.b)))then true else(!r_2))then true else(!r_3)),false)]then aR x.ohm 10 100000 else some default).bind fun r_4=>
 bif (bif (bif (bif (bif (bif (!r_)then true else(!r_1))then true else(decide (x.a=x.b)))then true else(!r_2))then true else(!r_3))then true else(!r_4))then
 some false
 else
 Option.bind (ay (l9 x) FUEL (0)) fun o=>match o with
 | .ret v=>some v
 | .brk _=>
 some (bif (decide ((x.trip.length:Int)<=6))then(bif (decide ((x.trip.length:Int)=0))then true else(decide (x.kind=3)))else false)
def p9 (x:Link) (x1:Int) (x11:List Source) (x12:List Link) (x13:List aL):Option Bool:=
 (qo x x1 x11 x12 x13).bind fun r_=>
 some (!r_)
def jI (s_:List Link) (f_:Int) (f_1:List Source) (f_2:List Link) (f_3:List aL):Int->Option (aV Int (Ex Unit Int)):=
 fun t8=>
 bif (decide (t8<(s_.length:Int)))then
 (p9 (at' s_ t8.toNat) f_ f_1 f_2 f_3).bind fun r_=>
 bC ((0:Int)<=t8/\t8<(s_.length:Int)) (
 bif r_ then
 some (.done (.ret t8))
 else
 some (.next (IntKind.wrap .i64 (t8+1))))
 else
 some (.done (.brk ()))
def lZ (s_:List Link) (f_:Int) (f_1:List Source) (f_2:List Link) (f_3:List aL):Option Int:=
 Option.bind (ay (jI s_ f_ f_1 f_2 f_3) FUEL (0)) fun o=>match o with
 | .ret v=>some v
 | .brk _=>
 some (-1)
def gQ (s_:List Link) (f_:Int) (f_1:List Source) (f_2:List Link) (f_3:List aL):Option Bool:=
 (lZ s_ f_ f_1 f_2 f_3).bind fun r_=>
 some (decide (0<=r_))
def pM (l:List Link) (most:Int) (right:Int) (right1:List Source) (right2:List Link) (right3:List aL):Option Bool:=
 (bif gB [(decide ((l.length:Int)<=most),true)]then gQ l right right1 right2 right3 else some default).bind fun r_=>
 some (bif (decide ((l.length:Int)<=most))then(!r_)else false)
def qW (x:aL):Option Int:=
 bif (decide (x.ba.e1=(-1)))then
 some 1
 else
 some 2
def qp (x:aL) (x1:Int) (x11:List Source) (x12:List Link) (x13:List aL):Option Bool:=
 (aR x.ba.e0 0 (IntKind.wrap .i64 (x1 - 1))).bind fun r_=>
 (bif gB [(r_,true)]then aR x.ba.e1 (-1) (IntKind.wrap .i64 (x1 - 1))else some default).bind fun r_1=>
 (bif gB [((bif (bif r_ then r_1 else false)then(!decide (x.ba.e0=x.ba.e1))else false),true)]then aR x.power 1 100000 else some default).bind fun r_2=>
 (bif gB [((bif (bif (bif r_ then r_1 else false)then(!decide (x.ba.e0=x.ba.e1))else false)then r_2 else false),true)]then qW x else some default).bind fun r_3=>
 (bif gB [((bif (bif (bif r_ then r_1 else false)then(!decide (x.ba.e0=x.ba.e1))else false)then r_2 else false),true)]then aR x.bm 0 r_3 else some default).bind fun r_4=>
 some (bif (bif (bif (bif r_ then r_1 else false)then(!decide (x.ba.e0=x.ba.e1))else false)then r_2 else false)then r_4 else false)
def qf (x:aL) (x1:Int) (x11:List Source) (x12:List Link) (x13:List aL):Option Bool:=
 (qp x x1 x11 x12 x13).bind fun r_=>
 some (!r_)
def jJ (s_:List aL) (f_:Int) (f_1:List Source) (f_2:List Link) (f_3:List aL):Int->Option (aV Int (Ex Unit Int)):=
 fun t8=>
 bif (decide (t8<(s_.length:Int)))then
 (qf (⟨(at' s_ t8.toNat).ba,(at' s_ t8.toNat).power,(at' s_ t8.toNat).bm⟩:aL) f_ f_1 f_2 f_3).bind fun r_=>
 bC ((0:Int)<=t8/\t8<(s_.length:Int)) (
 bif r_ then
 some (.done (.ret t8))
 else
 some (.next (IntKind.wrap .i64 (t8+1))))
 else
 some (.done (.brk ()))
def lT (s_:List aL) (f_:Int) (f_1:List Source) (f_2:List Link) (f_3:List aL):Option Int:=
 Option.bind (ay (jJ s_ f_ f_1 f_2 f_3) FUEL (0)) fun o=>match o with
 | .ret v=>some v
 | .brk _=>
 some (-1)
def gM (s_:List aL) (f_:Int) (f_1:List Source) (f_2:List Link) (f_3:List aL):Option Bool:=
 (lT s_ f_ f_1 f_2 f_3).bind fun r_=>
 some (decide (0<=r_))
def qx (l:List aL) (most:Int) (right:Int) (right1:List Source) (right2:List Link) (right3:List aL):Option Bool:=
 (bif gB [(decide ((l.length:Int)<=most),true)]then gM l right right1 right2 right3 else some default).bind fun r_=>
 some (bif (decide ((l.length:Int)<=most))then(!r_)else false)
def nX (p:ah):Option Int:=
 (aR p.ap 1 24).bind fun r_=>
 bif (!r_)then
 some 10
 else
 (uE p).bind fun r_1=>
 (sS p.aa 8 r_1.1 r_1.2.1 r_1.2.2.1 r_1.2.2.2).bind fun r_2=>
 bif (!r_2)then
 some 11
 else
 (xC p).bind fun r_3=>
 (pM p.ae 40 r_3.1 r_3.2.1 r_3.2.2.1 r_3.2.2.2).bind fun r_4=>
 bif (!r_4)then
 some 12
 else
 (xR p).bind fun r_5=>
 (qx p.a_ 24 r_5.1 r_5.2.1 r_5.2.2.1 r_5.2.2.2).bind fun r_6=>
 bif (!r_6)then
 some 13
 else
 some 0
def iU (p:ah) (s_:State):Int->Option (aV Int (Ex Unit Int)):=
 fun t55=>
 bif (decide (t55<([(⟨s_.aq,(p.ae.length:Int)⟩:cK),(⟨s_.aw,(p.ae.length:Int)⟩:cK),(⟨s_.am,(p.ae.length:Int)⟩:cK),(⟨s_.on_,(p.aa.length:Int)⟩:cK),(⟨s_.ag,(p.aa.length:Int)⟩:cK),(⟨s_.ar,p.ap⟩:cK),(⟨s_.al,p.ap⟩:cK)].length:Int)))then
 bC ((0:Int)<=t55/\t55<([(⟨s_.aq,(p.ae.length:Int)⟩:cK),(⟨s_.aw,(p.ae.length:Int)⟩:cK),(⟨s_.am,(p.ae.length:Int)⟩:cK),(⟨s_.on_,(p.aa.length:Int)⟩:cK),(⟨s_.ag,(p.aa.length:Int)⟩:cK),(⟨s_.ar,p.ap⟩:cK),(⟨s_.al,p.ap⟩:cK)].length:Int)) (
 bif (!decide ((((at' [(⟨s_.aq,(p.ae.length:Int)⟩:cK),(⟨s_.aw,(p.ae.length:Int)⟩:cK),(⟨s_.am,(p.ae.length:Int)⟩:cK),(⟨s_.on_,(p.aa.length:Int)⟩:cK),(⟨s_.ag,(p.aa.length:Int)⟩:cK),(⟨s_.ar,p.ap⟩:cK),(⟨s_.al,p.ap⟩:cK)] t55.toNat).l).length:Int)=((at' [(⟨s_.aq,(p.ae.length:Int)⟩:cK),(⟨s_.aw,(p.ae.length:Int)⟩:cK),(⟨s_.am,(p.ae.length:Int)⟩:cK),(⟨s_.on_,(p.aa.length:Int)⟩:cK),(⟨s_.ag,(p.aa.length:Int)⟩:cK),(⟨s_.ar,p.ap⟩:cK),(⟨s_.al,p.ap⟩:cK)] t55.toNat).n)))then
 some (.done (.ret 9))
 else
 some (.next (IntKind.wrap .i64 (t55+1))))
 else
 some (.done (.brk ()))
def iT (p:ah) (s_:State):Int->Option (aV Int (Ex Unit Int)):=
 fun t69=>
 bif (decide (t69<(p.ae.length:Int)))then
 bC ((0:Int)<=t69/\t69<(p.ae.length:Int)) (
 bC ((gB [(decide (((at' p.ae t69.toNat).kind)=1),true)]=true->(0:Int)<=t69/\t69<(s_.aq.length:Int))/\(gB [(!(at' s_.aq t69.toNat),false),(decide (((at' p.ae t69.toNat).kind)=1),true)]=true->(0:Int)<=t69/\t69<(s_.aw.length:Int))) (
 bif (bif (decide (((at' p.ae t69.toNat).kind)=1))then(bif (!(at' s_.aq t69.toNat))then true else(at' s_.aw t69.toNat))else false)then
 some (.done (.ret 9))
 else
 some (.next (IntKind.wrap .i64 (t69+1)))))
 else
 some (.done (.brk ()))
def dV (p:ah) (s_:State):Option Int:=
 (nX p).bind fun r_=>
 bif (!decide (r_=0))then
 some r_
 else
 Option.bind (ay (iU p s_) FUEL (0)) fun o=>match o with
 | .ret v=>some v
 | .brk _=>
 Option.bind (ay (iT p s_) FUEL (0)) fun o=>match o with
 | .ret v=>some v
 | .brk _=>
 some 0
def j4 (i:Int) (x1:Int) (x11:List Source) (x12:List Link) (x13:List aL):Option Bool:=
 bC (gB [((bif (decide (0<=i))then(decide (i<(x12.length:Int)))else false),true)]=true->(0:Int)<=i/\i<(x12.length:Int)) (
 some (bif (bif (decide (0<=i))then(decide (i<(x12.length:Int)))else false)then(!decide (((at' x12 i.toNat).kind)=1))else false))
def o8 (x:Transfer) (x1:Int) (x11:List Source) (x12:List Link) (x13:List aL) (x2:Int) (x21:List Source) (x22:List Link) (x23:List aL):Option Bool:=
 (bif gB [((bif (decide (x.bi<0))then true else(decide (x1<=x.bi))),false)]then j4 x.close x2 x21 x22 x23 else some default).bind fun r_=>
 (bif gB [(!decide (x.open_=(-1)),true),((bif (bif (decide (x.bi<0))then true else(decide (x1<=x.bi)))then true else(!r_)),false)]then j4 x.open_ x2 x21 x22 x23 else some default).bind fun r_1=>
 some (bif (bif (bif (decide (x.bi<0))then true else(decide (x1<=x.bi)))then true else(!r_))then true else(bif (!decide (x.open_=(-1)))then(bif (!r_1)then true else(decide (x.open_=x.close)))else false))
def vX (s_:List Transfer) (f_:Int) (f_1:List Source) (f_2:List Link) (f_3:List aL) (f_4:Int) (f_5:List Source) (f_6:List Link) (f_7:List aL):Int->Option (aV Int (Ex Unit Int)):=
 fun t8=>
 bif (decide (t8<(s_.length:Int)))then
 (o8 (at' s_ t8.toNat) f_ f_1 f_2 f_3 f_4 f_5 f_6 f_7).bind fun r_=>
 bC ((0:Int)<=t8/\t8<(s_.length:Int)) (
 bif r_ then
 some (.done (.ret t8))
 else
 some (.next (IntKind.wrap .i64 (t8+1))))
 else
 some (.done (.brk ()))
def qF (s_:List Transfer) (f_:Int) (f_1:List Source) (f_2:List Link) (f_3:List aL) (f_4:Int) (f_5:List Source) (f_6:List Link) (f_7:List aL):Option Int:=
 Option.bind (ay (vX s_ f_ f_1 f_2 f_3 f_4 f_5 f_6 f_7) FUEL (0)) fun o=>match o with
 | .ret v=>some v
 | .brk _=>
 some (-1)
def oZ (s_:List Transfer) (f_:Int) (f_1:List Source) (f_2:List Link) (f_3:List aL) (f_4:Int) (f_5:List Source) (f_6:List Link) (f_7:List aL):Option Bool:=
 (qF s_ f_ f_1 f_2 f_3 f_4 f_5 f_6 f_7).bind fun r_=>
 some (decide (0<=r_))
def lU (p:ah) (s_:State) (l:List Transfer):Option Int:=
 (dV p s_).bind fun r_=>
 bif (!decide (r_=0))then
 some r_
 else
 (bif gB [(decide (16<(l.length:Int)),false)]then oZ l p.ap p.aa p.ae p.a_ p.ap p.aa p.ae p.a_ else some default).bind fun r_1=>
 bif (bif (decide (16<(l.length:Int)))then true else r_1)then
 some 1
 else
 some 0
def tX (s_:List Bool) (s_nn:Bool):Option (List Bool):=
 bif (!s_nn)then
 some ([]:List Bool)
 else
 bC (((([]:List Bool).length+s_.length)*1<=140737488355328)/\(([]:List Bool).length+s_.length<=4611686018427387904)) (
 some (([]:List Bool)++s_))
def aX (s:List Bool):Option (List Bool):=tX s true
def zA (s_:State):Option State:=
 bC ((0:Int)<=0/\0<(7:Int)) (
 (aX s_.aq).bind fun r_=>
 bC ((0:Int)<=1/\1<(7:Int)) (
 (aX s_.aw).bind fun r_1=>
 bC ((0:Int)<=2/\2<(7:Int)) (
 (aX s_.am).bind fun r_2=>
 bC ((0:Int)<=3/\3<(7:Int)) (
 (aX s_.on_).bind fun r_3=>
 bC ((0:Int)<=4/\4<(7:Int)) (
 (aX s_.ag).bind fun r_4=>
 bC ((0:Int)<=5/\5<(7:Int)) (
 (aX s_.ar).bind fun r_5=>
 bC ((0:Int)<=6/\6<(7:Int)) (
 (aX s_.al).bind fun r_6=>
 some (⟨r_,r_1,r_2,r_3,r_4,r_5,r_6⟩:State))))))))
def vz (p:ah) (s_:State) (l:List Transfer):Option ((List Transfer) × Int × (List Source) × (List Link) × (List aL) × State):=
 some (l,p.ap,p.aa,p.ae,p.a_,s_)
def oN (p:ah) (s_:State):Option (Int × (List Source) × (List Link) × (List aL) × (List Bool) × (List Bool) × (List Bool) × (List Bool) × (List Bool) × (List Bool) × (List Bool)):=
 some (p.ap,p.aa,p.ae,p.a_,s_.aq,s_.aw,s_.am,s_.on_,s_.ag,s_.ar,s_.al)
def fB (g:aY):Int->Option (aV Int (Ex Unit Int)):=
 fun x1=>
 bif (!((bA cZ x1 g.bk).isSome))then
 some (.done (.ret x1))
 else
 some (.next ((bA cZ x1 g.bk).getD 0))
def dm (g:aY) (x:Int):Option Int:=
 Option.bind (ay (fB g) FUEL (x)) fun o=>match o with
 | .ret v=>some v
 | .brk _=>none
def jT (g:aY) (a:Int) (b:Int):Option (List (Int × Int)):=
 (dm g a).bind fun r_=>
 (dm g b).bind fun r_1=>
 bif (!decide (r_=r_1))then
 some (gW cZ r_ r_1 g.bk)
 else
 some g.bk
def mF (x22:Int) (x221:Int) (x222:Int) (x223:Int) (x224:Int) (x225:List kJ) (o_:aY):Option aY:=
 (jT o_ x22 x221).bind fun r_=>
 some (⟨r_⟩:aY)
def dO (x12:List Link) (x2:List Bool) (x22:List Bool) (x26:List Bool):((List (Int × Int)) × Int)->Option (aV ((List (Int × Int)) × Int) (Ex (List (Int × Int)) aY)):=
 fun zz=>match zz with
 |(o50,t9)=>
 bif (decide (t9<(x12.length:Int)))then
 bC ((0:Int)<=t9/\t9<(x12.length:Int)) (
 bif (bif (bif (bif (at' x2 t9.toNat)then(!(at' x22 t9.toNat))else false)then(!(at' x26 (((at' x12 t9.toNat).a).toNat)))else false)then(!(at' x26 (((at' x12 t9.toNat).b).toNat)))else false)then
 (mF ((at' x12 t9.toNat).a) ((at' x12 t9.toNat).b) ((at' x12 t9.toNat).kind) ((at' x12 t9.toNat).most) ((at' x12 t9.toNat).ohm) ((at' x12 t9.toNat).trip) (⟨o50⟩:aY)).bind fun r_=>
 bC (((0:Int)<=t9/\t9<(x2.length:Int))/\(gB [(at' x2 t9.toNat,true)]=true->(0:Int)<=t9/\t9<(x22.length:Int))/\(gB [((bif (at' x2 t9.toNat)then(!(at' x22 t9.toNat))else false),true)]=true->(0:Int)<=(at' x12 t9.toNat).a/\(at' x12 t9.toNat).a<(x26.length:Int))/\(gB [((bif (bif (at' x2 t9.toNat)then(!(at' x22 t9.toNat))else false)then(!(at' x26 (((at' x12 t9.toNat).a).toNat)))else false),true)]=true->(0:Int)<=(at' x12 t9.toNat).b/\(at' x12 t9.toNat).b<(x26.length:Int))) (
 some (.next (r_.bk,IntKind.wrap .i64 (t9+1))))
 else
 bC (((0:Int)<=t9/\t9<(x2.length:Int))/\(gB [(at' x2 t9.toNat,true)]=true->(0:Int)<=t9/\t9<(x22.length:Int))/\(gB [((bif (at' x2 t9.toNat)then(!(at' x22 t9.toNat))else false),true)]=true->(0:Int)<=(at' x12 t9.toNat).a/\(at' x12 t9.toNat).a<(x26.length:Int))/\(gB [((bif (bif (at' x2 t9.toNat)then(!(at' x22 t9.toNat))else false)then(!(at' x26 (((at' x12 t9.toNat).a).toNat)))else false),true)]=true->(0:Int)<=(at' x12 t9.toNat).b/\(at' x12 t9.toNat).b<(x26.length:Int))) (
 some (.next (o50,IntKind.wrap .i64 (t9+1)))))
 else
 some (.done (.brk o50))
def ni (x1:Int) (x11:List Source) (x12:List Link) (x13:List aL) (x2:List Bool) (x21:List Bool) (x22:List Bool) (x23:List Bool) (x24:List Bool) (x25:List Bool) (x26:List Bool) (o_:aY):Option aY:=
 Option.bind (ay (dO x12 x2 x22 x26) FUEL (o_.bk,0)) fun o=>match o with
 | .ret v=>some v
 | .brk o501=>
 some (⟨o501⟩:aY)
def gK (p:ah) (s_:State) (r_1:aY):((List aI) × (List (Int × Int)) × Int)->Option (aV ((List aI) × (List (Int × Int)) × Int) (Ex ((List aI) × (List (Int × Int))) (List aI))):=
 fun zz=>match zz with
 |(out,at_,t32)=>
 bif (decide (t32<p.ap))then
 bC ((0:Int)<=t32/\t32<(s_.al.length:Int)) (
 bif (at' s_.al t32.toNat)then
 some (.next (out,at_,IntKind.wrap .i64 (t32+1)))
 else
 (dm r_1 t32).bind fun r_2=>
 bif (!((bA cZ r_2 at_).isSome))then
 bC (((out.length+[(⟨([]:List Int),([]:List Int)⟩:aI)].length)*48<=140737488355328)/\(out.length+[(⟨([]:List Int),([]:List Int)⟩:aI)].length<=4611686018427387904)) (
 bC (((0:Int)<=((bA cZ r_2 (gW cZ r_2 (out.length:Int) at_)).getD 0)/\((bA cZ r_2 (gW cZ r_2 (out.length:Int) at_)).getD 0)<((out++[(⟨([]:List Int),([]:List Int)⟩:aI)]).length:Int))/\((((at' (out++[(⟨([]:List Int),([]:List Int)⟩:aI)]) (((bA cZ r_2 (gW cZ r_2 (out.length:Int) at_)).getD 0).toNat)).ap).length+[t32].length)*8<=140737488355328)/\(((at' (out++[(⟨([]:List Int),([]:List Int)⟩:aI)]) (((bA cZ r_2 (gW cZ r_2 (out.length:Int) at_)).getD 0).toNat)).ap).length+[t32].length<=4611686018427387904)) (
 some (.next ((out++[(⟨([]:List Int),([]:List Int)⟩:aI)]).set (((bA cZ r_2 (gW cZ r_2 (out.length:Int) at_)).getD 0).toNat) (⟨((at' (out++[(⟨([]:List Int),([]:List Int)⟩:aI)]) (((bA cZ r_2 (gW cZ r_2 (out.length:Int) at_)).getD 0).toNat)).ap)++[t32],(at' (out++[(⟨([]:List Int),([]:List Int)⟩:aI)]) (((bA cZ r_2 (gW cZ r_2 (out.length:Int) at_)).getD 0).toNat)).aa⟩:aI),gW cZ r_2 (out.length:Int) at_,IntKind.wrap .i64 (t32+1)))))
 else
 bC (((0:Int)<=((bA cZ r_2 at_).getD 0)/\((bA cZ r_2 at_).getD 0)<(out.length:Int))/\((((at' out (((bA cZ r_2 at_).getD 0).toNat)).ap).length+[t32].length)*8<=140737488355328)/\(((at' out (((bA cZ r_2 at_).getD 0).toNat)).ap).length+[t32].length<=4611686018427387904)) (
 some (.next (out.set (((bA cZ r_2 at_).getD 0).toNat) (⟨((at' out (((bA cZ r_2 at_).getD 0).toNat)).ap)++[t32],(at' out (((bA cZ r_2 at_).getD 0).toNat)).aa⟩:aI),at_,IntKind.wrap .i64 (t32+1)))))
 else
 some (.done (.brk (out,at_)))
def gH (p:ah) (s_:State) (r_1:aY) (at_1:List (Int × Int)):((List aI) × Int)->Option (aV ((List aI) × Int) (Ex (List aI) (List aI))):=
 fun zz=>match zz with
 |(out2,t78)=>
 bif (decide (t78<(p.aa.length:Int)))then
 bC ((0:Int)<=t78/\t78<(p.aa.length:Int)) (
 bC (((0:Int)<=t78/\t78<(s_.on_.length:Int))/\(gB [(at' s_.on_ t78.toNat,true)]=true->(0:Int)<=t78/\t78<(s_.ag.length:Int))/\(gB [((bif (at' s_.on_ t78.toNat)then(!(at' s_.ag t78.toNat))else false),true)]=true->(0:Int)<=(at' p.aa t78.toNat).bus/\(at' p.aa t78.toNat).bus<(s_.al.length:Int))) (
 bif (bif (bif (at' s_.on_ t78.toNat)then(!(at' s_.ag t78.toNat))else false)then(!(at' s_.al (((at' p.aa t78.toNat).bus).toNat)))else false)then
 (dm r_1 ((at' p.aa t78.toNat).bus)).bind fun r_3=>
 bC (((0:Int)<=((bA cZ r_3 at_1).getD 0)/\((bA cZ r_3 at_1).getD 0)<(out2.length:Int))/\((((at' out2 (((bA cZ r_3 at_1).getD 0).toNat)).aa).length+[t78].length)*8<=140737488355328)/\(((at' out2 (((bA cZ r_3 at_1).getD 0).toNat)).aa).length+[t78].length<=4611686018427387904)) (
 some (.next (out2.set (((bA cZ r_3 at_1).getD 0).toNat) (⟨(at' out2 (((bA cZ r_3 at_1).getD 0).toNat)).ap,((at' out2 (((bA cZ r_3 at_1).getD 0).toNat)).aa)++[t78]⟩:aI),IntKind.wrap .i64 (t78+1))))
 else
 some (.next (out2,IntKind.wrap .i64 (t78+1)))))
 else
 some (.done (.brk out2))
def lu (p:ah) (s_:State):Option (List aI):=
 (oN p s_).bind fun r_=>
 (ni r_.1 r_.2.1 r_.2.2.1 r_.2.2.2.1 r_.2.2.2.2.1 r_.2.2.2.2.2.1 r_.2.2.2.2.2.2.1 r_.2.2.2.2.2.2.2.1 r_.2.2.2.2.2.2.2.2.1 r_.2.2.2.2.2.2.2.2.2.1 r_.2.2.2.2.2.2.2.2.2.2 (⟨([]:(List (Int × Int)))⟩:aY)).bind fun r_1=>
 Option.bind (ay (gK p s_ r_1) FUEL (([]:List aI),([]:(List (Int × Int))),0)) fun o=>match o with
 | .ret v=>some v
 | .brk (out1,at_1)=>
 Option.bind (ay (gH p s_ r_1 at_1) FUEL (out1,0)) fun o=>match o with
 | .ret v=>some v
 | .brk out3=>
 some out3
def lg (r_1:List aI) (t25:Int):((List Bool) × Int)->Option (aV ((List Bool) × Int) (Ex (List Bool) (aV ((List Bool) × Int) (Ex (List Bool) ((List Bool) × Int))))):=
 fun zz=>match zz with
 |(out2,t32)=>
 bif (decide (t32<(((at' r_1 t25.toNat).ap).length:Int)))then
 bC ((0:Int)<=t32/\t32<(((at' r_1 t25.toNat).ap).length:Int)) (
 bC ((0:Int)<=(at' ((at' r_1 t25.toNat).ap) t32.toNat)/\(at' ((at' r_1 t25.toNat).ap) t32.toNat)<(out2.length:Int)) (
 some (.next (out2.set ((at' ((at' r_1 t25.toNat).ap) t32.toNat).toNat) (decide (0<(((at' r_1 t25.toNat).aa).length:Int))),IntKind.wrap .i64 (t32+1)))))
 else
 some (.done (.brk out2))
def lG (r_1:List aI):((List Bool) × Int)->Option (aV ((List Bool) × Int) (Ex (List Bool) ((List Bool) × Int))):=
 fun zz=>match zz with
 |(out,t25)=>
 bif (decide (t25<(r_1.length:Int)))then
 bC ((0:Int)<=t25/\t25<(r_1.length:Int)) (
 Option.bind (ay (lg r_1 t25) FUEL (out,0)) fun o=>match o with
 | .ret v=>some v
 | .brk out3=>
 some (.next (out3,IntKind.wrap .i64 (t25+1))))
 else
 some (.done (.brk out))
def eZ (p:ah) (s_:State):Option ((List Bool) × Int):=
 (dV p s_).bind fun r_=>
 bif (!decide (r_=0))then
 some (([]:List Bool),r_)
 else
 bC (((0:Int)<=p.ap)/\((1:Int)*p.ap<=281474976710656)/\((p.ap:Int)<=9223372036854775807)) (
 (lu p s_).bind fun r_1=>
 Option.bind (ay (lG r_1) FUEL (List.replicate p.ap.toNat (false:Bool),0)) fun o=>match o with
 | .ret v=>some v
 | .brk out1=>
 some (out1,0))
def dI (x y:aB):Int:=if x.e0<y.e0 then -1 else if y.e0<x.e0 then 1 else if x.e1<y.e1 then -1 else if y.e1<x.e1 then 1 else 0
def vC (s:List aB):Option (List aB):=match s with
 |[]=>some []
 |x::xs=>bif decide ((x::xs).length<4611686018427387904)then some ((x::xs).mergeSort fun x y=> !decide (dI y x<0))else none
def BA (p:ah) (r_1:List aI) (t24:Int) (t31:Int):((List aB) × Int)->Option (aV ((List aB) × Int) (Ex (List aB) (aV ((List aB) × Int) (Ex (List aB) (aV ((List aB) × Int) (Ex (List aB) ((List aB) × Int))))))):=
 fun zz=>match zz with
 |(out4,t42)=>
 bif (decide (t42<(((((at' r_1 t24.toNat).aa).length - ((IntKind.wrap .i64 (t31+1)).toNat)):Nat):Int)))then
 bC ((0:Int)<=t42/\t42<((((at' r_1 t24.toNat).aa).drop ((IntKind.wrap .i64 (t31+1)).toNat)).length:Int)) (
 bC (((0:Int)<=(at' ((at' r_1 t24.toNat).aa) t31.toNat)/\(at' ((at' r_1 t24.toNat).aa) t31.toNat)<(p.aa.length:Int))/\(gB [(decide (((at' p.aa ((at' ((at' r_1 t24.toNat).aa) t31.toNat).toNat)).bp)=0),false)]=true->(0:Int)<=(at' ((at' r_1 t24.toNat).aa) t31.toNat)/\(at' ((at' r_1 t24.toNat).aa) t31.toNat)<(p.aa.length:Int))/\(gB [(decide (((at' p.aa ((at' ((at' r_1 t24.toNat).aa) t31.toNat).toNat)).bp)=0),false)]=true->(0:Int)<=(at' (((at' r_1 t24.toNat).aa).drop ((IntKind.wrap .i64 (t31+1)).toNat)) t42.toNat)/\(at' (((at' r_1 t24.toNat).aa).drop ((IntKind.wrap .i64 (t31+1)).toNat)) t42.toNat)<(p.aa.length:Int))) (
 bif (bif (decide (((at' p.aa ((at' ((at' r_1 t24.toNat).aa) t31.toNat).toNat)).bp)=0))then true else(!decide (((at' p.aa ((at' ((at' r_1 t24.toNat).aa) t31.toNat).toNat)).bp)=((at' p.aa ((at' (((at' r_1 t24.toNat).aa).drop ((IntKind.wrap .i64 (t31+1)).toNat)) t42.toNat).toNat)).bp))))then
 bC (((out4.length+[(⟨at' ((at' r_1 t24.toNat).aa) t31.toNat,at' (((at' r_1 t24.toNat).aa).drop ((IntKind.wrap .i64 (t31+1)).toNat)) t42.toNat⟩:aB)].length)*16<=140737488355328)/\(out4.length+[(⟨at' ((at' r_1 t24.toNat).aa) t31.toNat,at' (((at' r_1 t24.toNat).aa).drop ((IntKind.wrap .i64 (t31+1)).toNat)) t42.toNat⟩:aB)].length<=4611686018427387904)) (
 some (.next (out4++[(⟨at' ((at' r_1 t24.toNat).aa) t31.toNat,at' (((at' r_1 t24.toNat).aa).drop ((IntKind.wrap .i64 (t31+1)).toNat)) t42.toNat⟩:aB)],IntKind.wrap .i64 (t42+1))))
 else
 some (.next (out4,IntKind.wrap .i64 (t42+1)))))
 else
 some (.done (.brk out4))
def Bn (p:ah) (r_1:List aI) (t24:Int):((List aB) × Int)->Option (aV ((List aB) × Int) (Ex (List aB) (aV ((List aB) × Int) (Ex (List aB) ((List aB) × Int))))):=
 fun zz=>match zz with
 |(out2,t31)=>
 bif (decide (t31<(((at' r_1 t24.toNat).aa).length:Int)))then
 bC ((0:Int)<=t31/\t31<(((at' r_1 t24.toNat).aa).length:Int)) (
 bC ((0:Int)<=(IntKind.wrap .i64 (t31+1))/\(IntKind.wrap .i64 (t31+1))<=(((at' r_1 t24.toNat).aa).length:Int)) (
 Option.bind (ay (BA p r_1 t24 t31) FUEL (out2,0)) fun o=>match o with
 | .ret v=>some v
 | .brk out5=>
 some (.next (out5,IntKind.wrap .i64 (t31+1)))))
 else
 some (.done (.brk out2))
def Be (p:ah) (r_1:List aI):((List aB) × Int)->Option (aV ((List aB) × Int) (Ex (List aB) ((List aB) × Int))):=
 fun zz=>match zz with
 |(out,t24)=>
 bif (decide (t24<(r_1.length:Int)))then
 bC ((0:Int)<=t24/\t24<(r_1.length:Int)) (
 Option.bind (ay (Bn p r_1 t24) FUEL (out,0)) fun o=>match o with
 | .ret v=>some v
 | .brk out3=>
 some (.next (out3,IntKind.wrap .i64 (t24+1))))
 else
 some (.done (.brk out))
def lm (p:ah) (s_:State):Option ((List aB) × Int):=
 (dV p s_).bind fun r_=>
 bif (!decide (r_=0))then
 some (([]:List aB),r_)
 else
 (lu p s_).bind fun r_1=>
 Option.bind (ay (Be p r_1) FUEL (([]:List aB),0)) fun o=>match o with
 | .ret v=>some v
 | .brk out1=>
 (vC out1).bind fun r_2=>
 bC (out1.length=r_2.length) (
 some (r_2,0))
def Ct (s_:List aB) (v_:aB):Int->Option (aV Int (Ex Unit Int)):=
 fun t8=>
 bif (decide (t8<(s_.length:Int)))then
 bC ((0:Int)<=t8/\t8<(s_.length:Int)) (
 bif ((decide (v_.e0=((at' s_ t8.toNat).e0))) && ((decide (v_.e1=((at' s_ t8.toNat).e1))) && true))then
 some (.done (.ret t8))
 else
 some (.next (IntKind.wrap .i64 (t8+1))))
 else
 some (.done (.brk ()))
def zS (s_:List aB) (v_:aB):Option Int:=
 Option.bind (ay (Ct s_ v_) FUEL (0)) fun o=>match o with
 | .ret v=>some v
 | .brk _=>
 some (-1)
def uW (s_:List aB) (v_:aB):Option Bool:=
 (zS s_ v_).bind fun r_=>
 some (decide (0<=r_))
def yh (c:aB) (x1:List aB):Option Bool:=
 (uW x1 c).bind fun r_=>
 some (!r_)
def wh (s_:List aB) (f_:List aB):Int->Option (aV Int (Ex Unit Int)):=
 fun t8=>
 bif (decide (t8<(s_.length:Int)))then
 (yh (at' s_ t8.toNat) f_).bind fun r_=>
 bC ((0:Int)<=t8/\t8<(s_.length:Int)) (
 bif r_ then
 some (.done (.ret t8))
 else
 some (.next (IntKind.wrap .i64 (t8+1))))
 else
 some (.done (.brk ()))
def qB (s_:List aB) (f_:List aB):Option Int:=
 Option.bind (ay (wh s_ f_) FUEL (0)) fun o=>match o with
 | .ret v=>some v
 | .brk _=>
 some (-1)
def jL (s_:List aB) (f_:List aB):Option Bool:=
 (qB s_ f_).bind fun r_=>
 some (decide (0<=r_))
def Dy (s_:State) (r_:(List Bool) × Int) (r_2:(List Bool) × Int):Int->Option (aV Int (Ex Unit (State × Bool))):=
 fun t103=>
 bif (decide (t103<(r_2.1.length:Int)))then
 bC (((0:Int)<=t103/\t103<(r_.1.length:Int))/\(gB [(at' r_.1 t103.toNat,true)]=true->(0:Int)<=t103/\t103<(r_2.1.length:Int))/\(gB [((bif (at' r_.1 t103.toNat)then(!(at' r_2.1 t103.toNat))else false),false)]=true->(0:Int)<=t103/\t103<(r_2.1.length:Int))/\(gB [(at' r_2.1 t103.toNat,true),((bif (at' r_.1 t103.toNat)then(!(at' r_2.1 t103.toNat))else false),false)]=true->(0:Int)<=t103/\t103<(s_.ar.length:Int))/\(gB [((bif (at' r_2.1 t103.toNat)then(at' s_.ar t103.toNat)else false),true),((bif (at' r_.1 t103.toNat)then(!(at' r_2.1 t103.toNat))else false),false)]=true->(0:Int)<=t103/\t103<(r_.1.length:Int))) (
 bif (bif (bif (at' r_.1 t103.toNat)then(!(at' r_2.1 t103.toNat))else false)then true else(bif (bif (at' r_2.1 t103.toNat)then(at' s_.ar t103.toNat)else false)then(!(at' r_.1 t103.toNat))else false))then
 some (.done (.ret (s_,false)))
 else
 some (.next (IntKind.wrap .i64 (t103+1))))
 else
 some (.done (.brk ()))
def DK (s_:State) (r_:(List Bool) × Int) (r_6:(List Bool) × Int):Int->Option (aV Int (Ex Unit (State × Bool))):=
 fun t1031=>
 bif (decide (t1031<(r_6.1.length:Int)))then
 bC (((0:Int)<=t1031/\t1031<(r_.1.length:Int))/\(gB [(at' r_.1 t1031.toNat,true)]=true->(0:Int)<=t1031/\t1031<(r_6.1.length:Int))/\(gB [((bif (at' r_.1 t1031.toNat)then(!(at' r_6.1 t1031.toNat))else false),false)]=true->(0:Int)<=t1031/\t1031<(r_6.1.length:Int))/\(gB [(at' r_6.1 t1031.toNat,true),((bif (at' r_.1 t1031.toNat)then(!(at' r_6.1 t1031.toNat))else false),false)]=true->(0:Int)<=t1031/\t1031<(s_.ar.length:Int))/\(gB [((bif (at' r_6.1 t1031.toNat)then(at' s_.ar t1031.toNat)else false),true),((bif (at' r_.1 t1031.toNat)then(!(at' r_6.1 t1031.toNat))else false),false)]=true->(0:Int)<=t1031/\t1031<(r_.1.length:Int))) (
 bif (bif (bif (at' r_.1 t1031.toNat)then(!(at' r_6.1 t1031.toNat))else false)then true else(bif (bif (at' r_6.1 t1031.toNat)then(at' s_.ar t1031.toNat)else false)then(!(at' r_.1 t1031.toNat))else false))then
 some (.done (.ret (s_,false)))
 else
 some (.next (IntKind.wrap .i64 (t1031+1))))
 else
 some (.done (.brk ()))
def AJ (p:ah) (s_:State) (x:Transfer):Option (State × Bool):=
 (eZ p s_).bind fun r_=>
 bC (((0:Int)<=x.bi/\x.bi<(s_.al.length:Int))/\(gB [(at' s_.al x.bi.toNat,false)]=true->(0:Int)<=x.bi/\x.bi<(r_.1.length:Int))/\(gB [((bif (at' s_.al x.bi.toNat)then true else(at' r_.1 x.bi.toNat)),false)]=true->(0:Int)<=x.close/\x.close<(s_.aq.length:Int))/\(gB [((bif (bif (at' s_.al x.bi.toNat)then true else(at' r_.1 x.bi.toNat))then true else(at' s_.aq x.close.toNat)),false)]=true->(0:Int)<=x.close/\x.close<(s_.am.length:Int))/\(gB [((bif (bif (bif (at' s_.al x.bi.toNat)then true else(at' r_.1 x.bi.toNat))then true else(at' s_.aq x.close.toNat))then true else(at' s_.am x.close.toNat)),false)]=true->(0:Int)<=x.close/\x.close<(s_.aw.length:Int))) (
 bif (bif (bif (bif (bif (at' s_.al x.bi.toNat)then true else(at' r_.1 x.bi.toNat))then true else(at' s_.aq x.close.toNat))then true else(at' s_.am x.close.toNat))then true else(at' s_.aw x.close.toNat))then
 some (s_,false)
 else
 (aX s_.aq).bind fun r_1=>
 bC ((0:Int)<=x.close/\x.close<(r_1.length:Int)) (
 bif (decide (0<=x.open_))then
 bC (((0:Int)<=x.open_/\x.open_<(s_.am.length:Int))/\(gB [(at' s_.am x.open_.toNat,false)]=true->(0:Int)<=x.open_/\x.open_<(s_.aw.length:Int))) (
 bif (bif (at' s_.am x.open_.toNat)then true else(at' s_.aw x.open_.toNat))then
 some (s_,false)
 else
 bC ((0:Int)<=x.open_/\x.open_<((r_1.set x.close.toNat true).length:Int)) (
 (eZ p (⟨(r_1.set x.close.toNat true).set x.open_.toNat false,s_.aw,s_.am,s_.on_,s_.ag,s_.ar,s_.al⟩:State)).bind fun r_2=>
 Option.bind (ay (Dy s_ r_ r_2) FUEL (0)) fun o=>match o with
 | .ret v=>some v
 | .brk _=>
 (lm p s_).bind fun r_3=>
 (lm p (⟨(r_1.set x.close.toNat true).set x.open_.toNat false,s_.aw,s_.am,s_.on_,s_.ag,s_.ar,s_.al⟩:State)).bind fun r_4=>
 (bif gB [(!(at' r_2.1 x.bi.toNat),false)]then jL r_4.1 r_3.1 else some default).bind fun r_5=>
 bC ((0:Int)<=x.bi/\x.bi<(r_2.1.length:Int)) (
 bif (bif (!(at' r_2.1 x.bi.toNat))then true else r_5)then
 some (s_,false)
 else
 some ((⟨(r_1.set x.close.toNat true).set x.open_.toNat false,s_.aw,s_.am,s_.on_,s_.ag,s_.ar,s_.al⟩:State),true))))
 else
 (eZ p (⟨r_1.set x.close.toNat true,s_.aw,s_.am,s_.on_,s_.ag,s_.ar,s_.al⟩:State)).bind fun r_6=>
 Option.bind (ay (DK s_ r_ r_6) FUEL (0)) fun o=>match o with
 | .ret v=>some v
 | .brk _=>
 (lm p s_).bind fun r_7=>
 (lm p (⟨r_1.set x.close.toNat true,s_.aw,s_.am,s_.on_,s_.ag,s_.ar,s_.al⟩:State)).bind fun r_8=>
 (bif gB [(!(at' r_6.1 x.bi.toNat),false)]then jL r_8.1 r_7.1 else some default).bind fun r_9=>
 bC ((0:Int)<=x.bi/\x.bi<(r_6.1.length:Int)) (
 bif (bif (!(at' r_6.1 x.bi.toNat))then true else r_9)then
 some (s_,false)
 else
 some ((⟨r_1.set x.close.toNat true,s_.aw,s_.am,s_.on_,s_.ag,s_.ar,s_.al⟩:State),true))))
def su (x28:Int) (x29:List Bool) (x291:List Bool) (x292:List Bool) (x293:List Bool) (x294:List Bool) (x295:List Bool) (x296:List Bool) (state:State) (o_:List Int):Option (State × (List Int)):=
 bC (((o_.length+[x28].length)*8<=140737488355328)/\(o_.length+[x28].length<=4611686018427387904)) (
 some ((⟨x29,x291,x292,x293,x294,x295,x296⟩:State),o_++[x28]))
def Ap (x1:List Transfer) (x2:Int) (x21:List Source) (x22:List Link) (x23:List aL) (state:State) (o100:List Bool) (o110:List Int) (done:List Bool):Int->Option (aV Int (Ex Unit (aV ((List Bool) × (List Int) × (List Bool)) (Ex ((List Bool) × (List Int)) (State × State × (List Int)))))):=
 fun t15=>
 bif (decide (t15<(x1.length:Int)))then
 bC ((0:Int)<=t15/\t15<(x1.length:Int)) (
 bC ((0:Int)<=t15/\t15<(done.length:Int)) (
 bif (at' done t15.toNat)then
 some (.next (IntKind.wrap .i64 (t15+1)))
 else
 (AJ (⟨x2,x21,x22,x23⟩:ah) (⟨o100,state.aw,state.am,state.on_,state.ag,state.ar,state.al⟩:State) (at' x1 t15.toNat)).bind fun r_=>
 bif r_.2 then
 bC ((0:Int)<=t15/\t15<(done.length:Int)) (
 (su t15 r_.1.aq state.aw state.am state.on_ state.ag state.ar state.al (⟨o100,state.aw,state.am,state.on_,state.ag,state.ar,state.al⟩:State) o110).bind fun r_1=>
 some (.done (.ret (.next (r_.1.aq,r_1.2,done.set t15.toNat true)))))
 else
 some (.next (IntKind.wrap .i64 (t15+1)))))
 else
 some (.done (.brk ()))
def Am (x1:List Transfer) (x2:Int) (x21:List Source) (x22:List Link) (x23:List aL) (state:State):((List Bool) × (List Int) × (List Bool))->Option (aV ((List Bool) × (List Int) × (List Bool)) (Ex ((List Bool) × (List Int)) (State × State × (List Int)))):=
 fun zz=>match zz with
 |(o100,o110,done)=>
 Option.bind (ay (Ap x1 x2 x21 x22 x23 state o100 o110 done) FUEL (0)) fun o=>match o with
 | .ret v=>some v
 | .brk _=>
 some (.done (.brk (o100,o110)))
def wE (x1:List Transfer) (x2:Int) (x21:List Source) (x22:List Link) (x23:List aL) (state:State) (state1:State) (o_:List Int):Option (State × State × (List Int)):=
 Option.bind (α:=Unit) (
 bC (((0:Int)<=(x1.length:Int))/\((1:Int)*(x1.length:Int)<=281474976710656)/\(((x1.length:Int):Int)<=9223372036854775807)) (
 some ())) fun _=>
 Option.bind (ay (Am x1 x2 x21 x22 x23 state) FUEL (state.aq,o_,List.replicate ((x1.length:Int).toNat) (false:Bool))) fun o=>match o with
 | .ret v=>some v
 | .brk (o1001,o1101)=>
 some ((⟨o1001,state.aw,state.am,state.on_,state.ag,state.ar,state.al⟩:State),(⟨o1001,state.aw,state.am,state.on_,state.ag,state.ar,state.al⟩:State),o1101)
def mE (p:ah) (s_:State) (l:List Transfer):Option (State × (List Int) × Int):=
 (lU p s_ l).bind fun r_=>
 bif (!decide (r_=0))then
 some ((⟨([]:List Bool),([]:List Bool),([]:List Bool),([]:List Bool),([]:List Bool),([]:List Bool),([]:List Bool)⟩:State),([]:List Int),r_)
 else
 (zA s_).bind fun r_1=>
 (vz p r_1 l).bind fun r_2=>
 (wE r_2.1 r_2.2.1 r_2.2.2.1 r_2.2.2.2.1 r_2.2.2.2.2.1 r_1 r_1 ([]:List Int)).bind fun r_3=>
 some ((⟨r_3.1.aq,r_1.aw,r_1.am,r_1.on_,r_1.ag,r_1.ar,r_1.al⟩:State),r_3.2.2,0)
def CK (a:List Int) (b:List Int):Int->Option (aV Int (Ex Unit Bool)):=
 fun i=>
 bif (decide (i<(a.length:Int)))then
 bC (((0:Int)<=i/\i<(a.length:Int))/\((0:Int)<=i/\i<(b.length:Int))) (
 bif (!decide ((at' a i.toNat)=(at' b i.toNat)))then
 some (.done (.ret false))
 else
 some (.next (IntKind.wrap .i64 (i+1))))
 else
 some (.done (.brk ()))
def qy (a:List Int) (b:List Int):Option Bool:=
 bif (!decide ((a.length:Int)=(b.length:Int)))then
 some false
 else
 Option.bind (ay (CK a b) FUEL (0)) fun o=>match o with
 | .ret v=>some v
 | .brk _=>
 some true
def qc (s_:State):Option State:=
 bC ((0:Int)<=0/\0<(7:Int)) (
 (aX s_.aq).bind fun r_=>
 bC ((0:Int)<=1/\1<(7:Int)) (
 (aX s_.aw).bind fun r_1=>
 bC ((0:Int)<=2/\2<(7:Int)) (
 (aX s_.am).bind fun r_2=>
 bC ((0:Int)<=3/\3<(7:Int)) (
 (aX s_.on_).bind fun r_3=>
 bC ((0:Int)<=4/\4<(7:Int)) (
 (aX s_.ag).bind fun r_4=>
 bC ((0:Int)<=5/\5<(7:Int)) (
 (aX s_.ar).bind fun r_5=>
 bC ((0:Int)<=6/\6<(7:Int)) (
 (aX s_.al).bind fun r_6=>
 some (⟨r_,r_1,r_2,r_3,r_4,r_5,r_6⟩:State))))))))
def mH (p:ah) (s_:State) (x:Part) (is:Bool):Option (State × Int):=
 (dV p s_).bind fun r_=>
 bif (!decide (r_=0))then
 some ((⟨([]:List Bool),([]:List Bool),([]:List Bool),([]:List Bool),([]:List Bool),([]:List Bool),([]:List Bool)⟩:State),r_)
 else
 (qc s_).bind fun r_1=>
 bif (cZ x.kind 1)then
 (aR x.index 0 (IntKind.wrap .i64 ((r_1.al.length:Int) - 1))).bind fun r_2=>
 bif (!r_2)then
 some ((⟨([]:List Bool),([]:List Bool),([]:List Bool),([]:List Bool),([]:List Bool),([]:List Bool),([]:List Bool)⟩:State),14)
 else
 bC ((0:Int)<=x.index/\x.index<(r_1.al.length:Int)) (
 some ((⟨r_1.aq,r_1.aw,r_1.am,r_1.on_,r_1.ag,r_1.ar,r_1.al.set x.index.toNat is⟩:State),0))
 else
 bif (cZ x.kind 2)then
 (aR x.index 0 (IntKind.wrap .i64 ((r_1.ag.length:Int) - 1))).bind fun r_3=>
 bif (!r_3)then
 some ((⟨([]:List Bool),([]:List Bool),([]:List Bool),([]:List Bool),([]:List Bool),([]:List Bool),([]:List Bool)⟩:State),14)
 else
 bC ((0:Int)<=x.index/\x.index<(r_1.ag.length:Int)) (
 some ((⟨r_1.aq,r_1.aw,r_1.am,r_1.on_,r_1.ag.set x.index.toNat is,r_1.ar,r_1.al⟩:State),0))
 else
 bif (cZ x.kind 3)then
 (aR x.index 0 (IntKind.wrap .i64 ((r_1.am.length:Int) - 1))).bind fun r_4=>
 bif (!r_4)then
 some ((⟨([]:List Bool),([]:List Bool),([]:List Bool),([]:List Bool),([]:List Bool),([]:List Bool),([]:List Bool)⟩:State),14)
 else
 bC ((0:Int)<=x.index/\x.index<(r_1.am.length:Int)) (
 some ((⟨r_1.aq,r_1.aw,r_1.am.set x.index.toNat is,r_1.on_,r_1.ag,r_1.ar,r_1.al⟩:State),0))
 else
 (aR x.index 0 (-1)).bind fun r_5=>
 bif (!r_5)then
 some ((⟨([]:List Bool),([]:List Bool),([]:List Bool),([]:List Bool),([]:List Bool),([]:List Bool),([]:List Bool)⟩:State),14)
 else
 none
def qR (p:ah) (s_:State) (x:Part):Option (State × Int):=
 (mH p s_ x true).bind fun r_=>
 some (r_.1,r_.2)
def DZ (p:ah) (bh:List Part):((List Bool) × (List Bool) × (List Bool) × (List Bool) × (List Bool) × (List Bool) × (List Bool) × Int)->Option (aV ((List Bool) × (List Bool) × (List Bool) × (List Bool) × (List Bool) × (List Bool) × (List Bool) × Int) (Ex ((List Bool) × (List Bool) × (List Bool) × (List Bool) × (List Bool) × (List Bool) × (List Bool)) (State × Int))):=
 fun zz=>match zz with
 |(s0,s1,s2,s3,s4,s5,s6,t26)=>
 bif (decide (t26<(bh.length:Int)))then
 bC ((0:Int)<=t26/\t26<(bh.length:Int)) (
 (qR p (⟨s0,s1,s2,s3,s4,s5,s6⟩:State) (at' bh t26.toNat)).bind fun r_1=>
 bif (!decide (r_1.2=0))then
 some (.done (.ret ((⟨([]:List Bool),([]:List Bool),([]:List Bool),([]:List Bool),([]:List Bool),([]:List Bool),([]:List Bool)⟩:State),r_1.2)))
 else
 some (.next (r_1.1.aq,r_1.1.aw,r_1.1.am,r_1.1.on_,r_1.1.ag,r_1.1.ar,r_1.1.al,IntKind.wrap .i64 (t26+1))))
 else
 some (.done (.brk (s0,s1,s2,s3,s4,s5,s6)))
def AR (p:ah) (s_:State) (l:List Transfer) (bh:List Part):Option (State × Int):=
 (lU p s_ l).bind fun r_=>
 bif (!decide (r_=0))then
 some ((⟨([]:List Bool),([]:List Bool),([]:List Bool),([]:List Bool),([]:List Bool),([]:List Bool),([]:List Bool)⟩:State),r_)
 else
 Option.bind (ay (DZ p bh) FUEL (s_.aq,s_.aw,s_.am,s_.on_,s_.ag,s_.ar,s_.al,0)) fun o=>match o with
 | .ret v=>some v
 | .brk (s01,s11,s21,s31,s41,s51,s61)=>
 (mE p (⟨s01,s11,s21,s31,s41,s51,s61⟩:State) l).bind fun r_2=>
 some (r_2.1,r_2.2.2)
def eH (p:ah) (s_:State) (rack:Int):Option Int:=
 (dV p s_).bind fun r_=>
 bif (!decide (r_=0))then
 some r_
 else
 bif (bif (decide (rack<0))then true else(decide ((p.a_.length:Int)<=rack)))then
 some 13
 else
 some 0
def j3 (p:ah) (t24:Int):((List Part) × Int)->Option (aV ((List Part) × Int) (Ex (List Part) (aV ((List Part) × Int) (Ex (List Part) ((List Part) × Int))))):=
 fun zz=>match zz with
 |(out2,t30)=>
 bif (decide (t30<(at' [p.ap,(p.aa.length:Int),(p.ae.length:Int)] t24.toNat)))then
 bC (((out2.length+[(⟨IntKind.wrap .i64 (t24+1),t30⟩:Part)].length)*16<=140737488355328)/\(out2.length+[(⟨IntKind.wrap .i64 (t24+1),t30⟩:Part)].length<=4611686018427387904)) (
 some (.next (out2++[(⟨IntKind.wrap .i64 (t24+1),t30⟩:Part)],IntKind.wrap .i64 (t30+1))))
 else
 some (.done (.brk out2))
def iI (p:ah):((List Part) × Int)->Option (aV ((List Part) × Int) (Ex (List Part) ((List Part) × Int))):=
 fun zz=>match zz with
 |(out,t24)=>
 bif (decide (t24<([p.ap,(p.aa.length:Int),(p.ae.length:Int)].length:Int)))then
 bC ((0:Int)<=t24/\t24<([p.ap,(p.aa.length:Int),(p.ae.length:Int)].length:Int)) (
 Option.bind (ay (j3 p t24) FUEL (out,0)) fun o=>match o with
 | .ret v=>some v
 | .brk out3=>
 some (.next (out3,IntKind.wrap .i64 (t24+1))))
 else
 some (.done (.brk out))
def jG (p:ah):Option ((List Part) × Int):=
 (nX p).bind fun r_=>
 bif (!decide (r_=0))then
 some (([]:List Part),r_)
 else
 Option.bind (ay (iI p) FUEL (([]:List Part),0)) fun o=>match o with
 | .ret v=>some v
 | .brk out1=>
 some (out1,0)
def dM (a:Int) (b:Int) (graph:Graph):Option Graph:=
 bC ((((aC a graph.aG.e0).length+[b].length)*8<=140737488355328)/\((aC a graph.aG.e0).length+[b].length<=4611686018427387904)) (
 some (⟨graph.bh,(⟨eU a ((aC a graph.aG.e0)++[b]) graph.aG.e0,graph.aG.e1⟩:aD)⟩:Graph))
def gV (s_:List Part) (v_:Part):Int->Option (aV Int (Ex Unit Int)):=
 fun t8=>
 bif (decide (t8<(s_.length:Int)))then
 bC ((0:Int)<=t8/\t8<(s_.length:Int)) (
 bif ((decide (v_.kind=((at' s_ t8.toNat).kind))) && ((decide (v_.index=((at' s_ t8.toNat).index))) && true))then
 some (.done (.ret t8))
 else
 some (.next (IntKind.wrap .i64 (t8+1))))
 else
 some (.done (.brk ()))
def cO (s_:List Part) (v_:Part):Option Int:=
 Option.bind (ay (gV s_ v_) FUEL (0)) fun o=>match o with
 | .ret v=>some v
 | .brk _=>
 some (-1)
def bK (kz:Int) (i:Int) (graph:Graph):Option Int:=
 (cO graph.bh (⟨kz,i⟩:Part)).bind fun r_=>
 some r_
def gF (r_:(List Part) × Int):((List (Int × (List Int))) × Int)->Option (aV ((List (Int × (List Int))) × Int) (Ex (List (Int × (List Int))) Graph)):=
 fun zz=>match zz with
 |(g01,t41)=>
 bif (decide (t41<(r_.1.length:Int)))then
 (dM (IntKind.wrap .i64 ((2:Int)*t41)) (IntKind.wrap .i64 ((IntKind.wrap .i64 ((2:Int)*t41))+1)) (⟨r_.1,(⟨g01,([]:(List (Int × (List Int))))⟩:aD)⟩:Graph)).bind fun r_1=>
 some (.next (r_1.aG.e0,IntKind.wrap .i64 (t41+1)))
 else
 some (.done (.brk g01))
def fZ (p:ah) (s_:State) (r_:(List Part) × Int):((List (Int × (List Int))) × Int)->Option (aV ((List (Int × (List Int))) × Int) (Ex (List (Int × (List Int))) Graph)):=
 fun zz=>match zz with
 |(g012,t55)=>
 bif (decide (t55<(p.aa.length:Int)))then
 bC ((0:Int)<=t55/\t55<(p.aa.length:Int)) (
 bC (((0:Int)<=t55/\t55<(s_.on_.length:Int))/\(gB [(at' s_.on_ t55.toNat,true)]=true->(0:Int)<=t55/\t55<(s_.ag.length:Int))/\(gB [((bif (at' s_.on_ t55.toNat)then(!(at' s_.ag t55.toNat))else false),true)]=true->(0:Int)<=(at' p.aa t55.toNat).bus/\(at' p.aa t55.toNat).bus<(s_.al.length:Int))) (
 bif (bif (bif (at' s_.on_ t55.toNat)then(!(at' s_.ag t55.toNat))else false)then(!(at' s_.al (((at' p.aa t55.toNat).bus).toNat)))else false)then
 (bK 2 t55 (⟨r_.1,(⟨g012,([]:(List (Int × (List Int))))⟩:aD)⟩:Graph)).bind fun r_2=>
 (dM (-1) (IntKind.wrap .i64 ((2:Int)*r_2)) (⟨r_.1,(⟨g012,([]:(List (Int × (List Int))))⟩:aD)⟩:Graph)).bind fun r_3=>
 (bK 1 ((at' p.aa t55.toNat).bus) (⟨r_.1,(⟨r_3.aG.e0,([]:(List (Int × (List Int))))⟩:aD)⟩:Graph)).bind fun r_4=>
 (dM (IntKind.wrap .i64 ((IntKind.wrap .i64 ((2:Int)*r_2))+1)) (IntKind.wrap .i64 ((2:Int)*r_4)) (⟨r_.1,(⟨r_3.aG.e0,([]:(List (Int × (List Int))))⟩:aD)⟩:Graph)).bind fun r_5=>
 some (.next (r_5.aG.e0,IntKind.wrap .i64 (t55+1)))
 else
 some (.next (g012,IntKind.wrap .i64 (t55+1)))))
 else
 some (.done (.brk g012))
def dL (p:ah) (r_:(List Part) × Int) (t103:Int) (r_6:Int):((List (Int × (List Int))) × Int)->Option (aV ((List (Int × (List Int))) × Int) (Ex (List (Int × (List Int))) (aV ((List (Int × (List Int))) × Int) (Ex (List (Int × (List Int))) Graph)))):=
 fun zz=>match zz with
 |(g016,t145)=>
 bif (decide (t145<2))then
 bC ((0:Int)<=t145/\t145<((2:Nat):Int)) (
 (bK 1 (at' [(at' p.ae t103.toNat).a,(at' p.ae t103.toNat).b] t145.toNat) (⟨r_.1,(⟨g016,([]:(List (Int × (List Int))))⟩:aD)⟩:Graph)).bind fun r_7=>
 (dM (IntKind.wrap .i64 ((IntKind.wrap .i64 ((2:Int)*r_7))+1)) (IntKind.wrap .i64 ((2:Int)*r_6)) (⟨r_.1,(⟨g016,([]:(List (Int × (List Int))))⟩:aD)⟩:Graph)).bind fun r_8=>
 (bK 1 (at' [(at' p.ae t103.toNat).a,(at' p.ae t103.toNat).b] t145.toNat) (⟨r_.1,(⟨r_8.aG.e0,([]:(List (Int × (List Int))))⟩:aD)⟩:Graph)).bind fun r_9=>
 (dM (IntKind.wrap .i64 ((IntKind.wrap .i64 ((2:Int)*r_6))+1)) (IntKind.wrap .i64 ((2:Int)*r_9)) (⟨r_.1,(⟨r_8.aG.e0,([]:(List (Int × (List Int))))⟩:aD)⟩:Graph)).bind fun r_10=>
 some (.next (r_10.aG.e0,IntKind.wrap .i64 (t145+1))))
 else
 some (.done (.brk g016))
def gD (p:ah) (s_:State) (r_:(List Part) × Int):((List (Int × (List Int))) × Int)->Option (aV ((List (Int × (List Int))) × Int) (Ex (List (Int × (List Int))) Graph)):=
 fun zz=>match zz with
 |(g014,t103)=>
 bif (decide (t103<(p.ae.length:Int)))then
 bC ((0:Int)<=t103/\t103<(p.ae.length:Int)) (
 bC (((0:Int)<=t103/\t103<(s_.aq.length:Int))/\(gB [(!(at' s_.aq t103.toNat),false)]=true->(0:Int)<=t103/\t103<(s_.am.length:Int))/\(gB [((bif (!(at' s_.aq t103.toNat))then true else(at' s_.am t103.toNat)),false)]=true->(0:Int)<=(at' p.ae t103.toNat).a/\(at' p.ae t103.toNat).a<(s_.al.length:Int))/\(gB [((bif (bif (!(at' s_.aq t103.toNat))then true else(at' s_.am t103.toNat))then true else(at' s_.al (((at' p.ae t103.toNat).a).toNat))),false)]=true->(0:Int)<=(at' p.ae t103.toNat).b/\(at' p.ae t103.toNat).b<(s_.al.length:Int))) (
 bif (bif (bif (bif (!(at' s_.aq t103.toNat))then true else(at' s_.am t103.toNat))then true else(at' s_.al (((at' p.ae t103.toNat).a).toNat)))then true else(at' s_.al (((at' p.ae t103.toNat).b).toNat)))then
 some (.next (g014,IntKind.wrap .i64 (t103+1)))
 else
 (bK 3 t103 (⟨r_.1,(⟨g014,([]:(List (Int × (List Int))))⟩:aD)⟩:Graph)).bind fun r_6=>
 Option.bind (ay (dL p r_ t103 r_6) FUEL (g014,0)) fun o=>match o with
 | .ret v=>some v
 | .brk g017=>
 some (.next (g017,IntKind.wrap .i64 (t103+1)))))
 else
 some (.done (.brk g014))
def gu (p:ah) (s_:State) (rack:Int) (r_:(List Part) × Int):((List (Int × (List Int))) × Int)->Option (aV ((List (Int × (List Int))) × Int) (Ex (List (Int × (List Int))) Graph)):=
 fun zz=>match zz with
 |(g018,t174)=>
 bif (decide (t174<2))then
 bC ((0:Int)<=t174/\t174<((2:Nat):Int)) (
 bC (gB [(decide (0<=(at' [((at' p.a_ rack.toNat).ba).e0,((at' p.a_ rack.toNat).ba).e1] t174.toNat)),true)]=true->(0:Int)<=(at' [((at' p.a_ rack.toNat).ba).e0,((at' p.a_ rack.toNat).ba).e1] t174.toNat)/\(at' [((at' p.a_ rack.toNat).ba).e0,((at' p.a_ rack.toNat).ba).e1] t174.toNat)<(s_.al.length:Int)) (
 bif (bif (decide (0<=(at' [((at' p.a_ rack.toNat).ba).e0,((at' p.a_ rack.toNat).ba).e1] t174.toNat)))then(!(at' s_.al ((at' [((at' p.a_ rack.toNat).ba).e0,((at' p.a_ rack.toNat).ba).e1] t174.toNat).toNat)))else false)then
 (bK 1 (at' [((at' p.a_ rack.toNat).ba).e0,((at' p.a_ rack.toNat).ba).e1] t174.toNat) (⟨r_.1,(⟨g018,([]:(List (Int × (List Int))))⟩:aD)⟩:Graph)).bind fun r_11=>
 (dM (IntKind.wrap .i64 ((IntKind.wrap .i64 ((2:Int)*r_11))+1)) (-2) (⟨r_.1,(⟨g018,([]:(List (Int × (List Int))))⟩:aD)⟩:Graph)).bind fun r_12=>
 some (.next (r_12.aG.e0,IntKind.wrap .i64 (t174+1)))
 else
 some (.next (g018,IntKind.wrap .i64 (t174+1)))))
 else
 some (.done (.brk g018))
def kN (p:ah) (s_:State) (rack:Int):Option Graph:=
 (jG p).bind fun r_=>
 Option.bind (ay (gF r_) FUEL (([]:(List (Int × (List Int)))),0)) fun o=>match o with
 | .ret v=>some v
 | .brk g011=>
 Option.bind (ay (fZ p s_ r_) FUEL (g011,0)) fun o=>match o with
 | .ret v=>some v
 | .brk g013=>
 Option.bind (ay (gD p s_ r_) FUEL (g013,0)) fun o=>match o with
 | .ret v=>some v
 | .brk g015=>
 bC ((0:Int)<=rack/\rack<(p.a_.length:Int)) (
 Option.bind (ay (gu p s_ rack r_) FUEL (g015,0)) fun o=>match o with
 | .ret v=>some v
 | .brk g019=>
 some (⟨r_.1,(⟨g019,([]:(List (Int × (List Int))))⟩:aD)⟩:Graph))
def pK (s_:List Int) (s_nn:Bool):Option (List Int):=
 bif (!s_nn)then
 some ([]:List Int)
 else
 bC (((([]:List Int).length+s_.length)*8<=140737488355328)/\(([]:List Int).length+s_.length<=4611686018427387904)) (
 some (([]:List Int)++s_))
def jQ (s:List Int):Option (List Int):=pK s true
def mD (s_:List Int) (v_:Int):Int->Option (aV Int (Ex Unit Int)):=
 fun t8=>
 bif (decide (t8<(s_.length:Int)))then
 bC ((0:Int)<=t8/\t8<(s_.length:Int)) (
 bif (decide (v_=(at' s_ t8.toNat)))then
 some (.done (.ret t8))
 else
 some (.next (IntKind.wrap .i64 (t8+1))))
 else
 some (.done (.brk ()))
def fG (s_:List Int) (v_:Int):Option Int:=
 Option.bind (ay (mD s_ v_) FUEL (0)) fun o=>match o with
 | .ret v=>some v
 | .brk _=>
 some (-1)
def lC (s:List Int) (i j:Int):Option (List Int):=Ui s i j
def fo (a:Int) (b:Int) (from_:Int) (graph:Graph):Option Graph:=
 bif (decide (from_=0))then
 (fG (aC a graph.aG.e0) b).bind fun r_=>
 (lC (aC a graph.aG.e0) r_ (IntKind.wrap .i64 (r_+1))).bind fun r_1=>
 bC ((((aC a graph.aG.e1).length+[b].length)*8<=140737488355328)/\((aC a graph.aG.e1).length+[b].length<=4611686018427387904)) (
 some (⟨graph.bh,(⟨eU a r_1 graph.aG.e0,eU a ((aC a graph.aG.e1)++[b]) graph.aG.e1⟩:aD)⟩:Graph))
 else
 bC (from_=1) (
 (fG (aC a graph.aG.e1) b).bind fun r_2=>
 (lC (aC a graph.aG.e1) r_2 (IntKind.wrap .i64 (r_2+1))).bind fun r_3=>
 bC ((((aC a graph.aG.e0).length+[b].length)*8<=140737488355328)/\((aC a graph.aG.e0).length+[b].length<=4611686018427387904)) (
 some (⟨graph.bh,(⟨eU a ((aC a graph.aG.e0)++[b]) graph.aG.e0,eU a r_3 graph.aG.e1⟩:aD)⟩:Graph)))
def di (s_:List Int) (v_:Int):Option Bool:=
 (fG s_ v_).bind fun r_=>
 some (decide (0<=r_))
def fK (rec:Int->(List (Int × Bool))->Graph->Option (Bool × (List (Int × Bool)) × Graph)) (at_:Int) (graph:Graph) (r_:List Int):((List (Int × Bool)) × (List (Int × (List Int))) × (List (Int × (List Int))) × Int)->Option (aV ((List (Int × Bool)) × (List (Int × (List Int))) × (List (Int × (List Int))) × Int) (Ex ((List (Int × Bool)) × (List (Int × (List Int))) × (List (Int × (List Int)))) (Bool × (List (Int × Bool)) × Graph))):=
 fun zz=>match zz with
 |(o0,o01,o02,t23)=>
 bif (decide (t23<(r_.length:Int)))then
 bC ((0:Int)<=t23/\t23<(r_.length:Int)) (
 bif (!((bA cZ (at' r_ t23.toNat) o0).getD false))then
 (rec (at' r_ t23.toNat) o0 (⟨graph.bh,(⟨o01,o02⟩:aD)⟩:Graph)).bind fun r_1=>
 bif r_1.1 then
 (fo at_ (at' r_ t23.toNat) 0 (⟨graph.bh,r_1.2.2.aG⟩:Graph)).bind fun r_2=>
 some (.done (.ret (true,r_1.2.1,(⟨graph.bh,r_2.aG⟩:Graph))))
 else
 some (.next (r_1.2.1,r_1.2.2.aG.e0,r_1.2.2.aG.e1,IntKind.wrap .i64 (t23+1)))
 else
 some (.next (o0,o01,o02,IntKind.wrap .i64 (t23+1))))
 else
 some (.done (.brk (o0,o01,o02)))
def fO (rec:Int->(List (Int × Bool))->Graph->Option (Bool × (List (Int × Bool)) × Graph)) (at_:Int) (graph:Graph) (o021:List (Int × (List Int))):Int × List Int->((List (Int × Bool)) × (List (Int × (List Int))))->Option (aV ((List (Int × Bool)) × (List (Int × (List Int)))) (Ex Empty (Bool × (List (Int × Bool)) × Graph))):=
 fun x=>fun zz=>match zz with
 |(o04,o012)=>
 bif (bif (!((bA cZ x.1 o04).getD false))then(!decide (x.1=(-1)))else false)then
 (di x.2 at_).bind fun r_3=>
 bif r_3 then
 (rec x.1 o04 (⟨graph.bh,(⟨o012,o021⟩:aD)⟩:Graph)).bind fun r_4=>
 bif r_4.1 then
 (fo x.1 at_ 1 (⟨graph.bh,r_4.2.2.aG⟩:Graph)).bind fun r_5=>
 some (.done (.ret (true,r_4.2.1,(⟨graph.bh,r_5.aG⟩:Graph))))
 else
 bC (r_4.2.2.aG.e1=o021) (
 some (.next (r_4.2.1,r_4.2.2.aG.e0)))
 else
 some (.next (o04,o012))
 else
 some (.next (o04,o012))
def bG (at_:Int):Int × List Int->Bool:=
 fun x=> !(decide (x.1= -1)) && nfl (di x.2 at_)
def fe (rec:Int->(List (Int × Bool))->Graph->Option (Bool × (List (Int × Bool)) × Graph)) (at_:Int) (o_:List (Int × Bool)) (graph:Graph):Option (Bool × (List (Int × Bool)) × Graph):=
 bif (decide (at_=(-2)))then
 some (true,o_,graph)
 else
 (jQ (aC at_ graph.aG.e0)).bind fun r_=>
 Option.bind (ay (fK rec at_ graph r_) FUEL (gW cZ at_ true o_,graph.aG.e0,graph.aG.e1,0)) fun o=>match o with
 | .ret v=>some v
 | .brk (o03,o011,o021)=>
 Option.bind (goG o021 (bG at_) (fO rec at_ graph o021) (o03,o011)) fun o=>match o with
 | .ret v=>some v
 | .brk (o05,o013)=>
 some (false,o05,(⟨graph.bh,(⟨o013,o021⟩:aD)⟩:Graph))
def bJ:Nat->Int->(List (Int × Bool))->Graph->Option (Bool × (List (Int × Bool)) × Graph)
 |0,_,_,_=>none
 |n+1,at_,o_,graph=>fe (bJ n) at_ o_ graph
def dK (graph:Graph):Option (Bool × Graph):=
 (bJ FUEL (-1) ([]:(List (Int × Bool))) graph).bind fun r_=>
 some (r_.1,(⟨graph.bh,r_.2.2.aG⟩:Graph))
def bQ (graph:Graph):(Int × (List Part))->Option (aV (Int × (List Part)) (Ex (List Part) (aV ((List (List Part)) × Int) (Ex (List (List Part)) (List (List Part)))))):=
 fun zz=>match zz with
 |(at_,way)=>
 bif (!decide (at_=(-2)))then
 bC ((2≠(0:Int))/\((0:Int)<=(IntKind.wrap .i64 (Int.tdiv at_ 2))/\(IntKind.wrap .i64 (Int.tdiv at_ 2))<(graph.bh.length:Int))/\((way.length+[at' graph.bh ((IntKind.wrap .i64 (Int.tdiv at_ 2)).toNat)].length)*16<=140737488355328)/\(way.length+[at' graph.bh ((IntKind.wrap .i64 (Int.tdiv at_ 2)).toNat)].length<=4611686018427387904)) (
 bC ((0:Int)<=0/\0<(((bA cZ (IntKind.wrap .i64 (at_+1)) graph.aG.e1).getD ([]:List Int)).length:Int)) (
 some (.next (at' ((bA cZ (IntKind.wrap .i64 (at_+1)) graph.aG.e1).getD ([]:List Int)) 0,way++[at' graph.bh ((IntKind.wrap .i64 (Int.tdiv at_ 2)).toNat)]))))
 else
 some (.done (.brk way))
def gy (graph:Graph):((List (List Part)) × Int)->Option (aV ((List (List Part)) × Int) (Ex (List (List Part)) (List (List Part)))):=
 fun zz=>match zz with
 |(out,t14)=>
 bif (decide (t14<(((bA cZ (-1) graph.aG.e1).getD ([]:List Int)).length:Int)))then
 bC ((0:Int)<=t14/\t14<(((bA cZ (-1) graph.aG.e1).getD ([]:List Int)).length:Int)) (
 Option.bind (ay (bQ graph) FUEL (at' ((bA cZ (-1) graph.aG.e1).getD ([]:List Int)) t14.toNat,([]:List Part))) fun o=>match o with
 | .ret v=>some v
 | .brk way1=>
 bC (((out.length+[way1].length)*24<=140737488355328)/\(out.length+[way1].length<=4611686018427387904)) (
 some (.next (out++[way1],IntKind.wrap .i64 (t14+1)))))
 else
 some (.done (.brk out))
def dS (graph:Graph):Option (List (List Part)):=
 Option.bind (ay (gy graph) FUEL (([]:List (List Part)),0)) fun o=>match o with
 | .ret v=>some v
 | .brk out1=>
 some out1
def fQ (r_1:Graph):((List (Int × (List Int))) × (List (Int × (List Int))) × Int)->Option (aV ((List (Int × (List Int))) × (List (Int × (List Int))) × Int) (Ex ((List (Int × (List Int))) × (List (Int × (List Int)))) ((List (List Part)) × Int))):=
 fun zz=>match zz with
 |(g1,g2,t21)=>
 bif (decide (t21<2))then
 (dK (⟨r_1.bh,(⟨g1,g2⟩:aD)⟩:Graph)).bind fun r_2=>
 bif (!r_2.1)then
 some (.done (.brk (r_2.2.aG.e0,r_2.2.aG.e1)))
 else
 some (.next (r_2.2.aG.e0,r_2.2.aG.e1,IntKind.wrap .i64 (t21+1)))
 else
 some (.done (.brk (g1,g2)))
def jv (p:ah) (s_:State) (rack:Int):Option ((List (List Part)) × Int):=
 (eH p s_ rack).bind fun r_=>
 bif (!decide (r_=0))then
 some (([]:List (List Part)),r_)
 else
 (kN p s_ rack).bind fun r_1=>
 Option.bind (ay (fQ r_1) FUEL (r_1.aG.e0,r_1.aG.e1,0)) fun o=>match o with
 | .ret v=>some v
 | .brk (g11,g21)=>
 (dS (⟨r_1.bh,(⟨g11,g21⟩:aD)⟩:Graph)).bind fun r_3=>
 some (r_3,0)
def dZ (p:ah) (s_:State) (rack:Int):Option (Int × Int):=
 (jv p s_ rack).bind fun r_=>
 some ((r_.1.length:Int),r_.2)
def ko (p:ah) (r_:(List Bool) × Int):((List aQ) × Int)->Option (aV ((List aQ) × Int) (Ex (List aQ) ((List aQ) × Int))):=
 fun zz=>match zz with
 |(out,t26)=>
 bif (decide (t26<(p.a_.length:Int)))then
 bC ((0:Int)<=t26/\t26<(p.a_.length:Int)) (
 bC (gB [(decide (0<=(((at' p.a_ t26.toNat).ba).e0)),true)]=true->(0:Int)<=((at' p.a_ t26.toNat).ba).e0/\((at' p.a_ t26.toNat).ba).e0<(r_.1.length:Int)) (
 bC (gB [(decide (0<=(((at' p.a_ t26.toNat).ba).e1)),true)]=true->(0:Int)<=((at' p.a_ t26.toNat).ba).e1/\((at' p.a_ t26.toNat).ba).e1<(r_.1.length:Int)) (
 bC (((out.length+[(⟨(bif (decide (0<=(((at' p.a_ t26.toNat).ba).e0)))then(at' r_.1 ((((at' p.a_ t26.toNat).ba).e0).toNat))else false),(bif (decide (0<=(((at' p.a_ t26.toNat).ba).e1)))then(at' r_.1 ((((at' p.a_ t26.toNat).ba).e1).toNat))else false)⟩:aQ)].length)*2<=140737488355328)/\(out.length+[(⟨(bif (decide (0<=(((at' p.a_ t26.toNat).ba).e0)))then(at' r_.1 ((((at' p.a_ t26.toNat).ba).e0).toNat))else false),(bif (decide (0<=(((at' p.a_ t26.toNat).ba).e1)))then(at' r_.1 ((((at' p.a_ t26.toNat).ba).e1).toNat))else false)⟩:aQ)].length<=4611686018427387904)) (
 some (.next (out++[(⟨(bif (decide (0<=(((at' p.a_ t26.toNat).ba).e0)))then(at' r_.1 ((((at' p.a_ t26.toNat).ba).e0).toNat))else false),(bif (decide (0<=(((at' p.a_ t26.toNat).ba).e1)))then(at' r_.1 ((((at' p.a_ t26.toNat).ba).e1).toNat))else false)⟩:aQ)],IntKind.wrap .i64 (t26+1)))))))
 else
 some (.done (.brk out))
def uY (p:ah) (s_:State):Option ((List aQ) × Int):=
 (eZ p s_).bind fun r_=>
 bif (!decide (r_.2=0))then
 some (([]:List aQ),r_.2)
 else
 Option.bind (ay (ko p r_) FUEL (([]:List aQ),0)) fun o=>match o with
 | .ret v=>some v
 | .brk out1=>
 some (out1,0)
def pu (p:ah) (s_:State) (rack:Int):Option Bool:=
 (uY p s_).bind fun r_=>
 bC (((0:Int)<=rack/\rack<(r_.1.length:Int))/\(gB [((at' r_.1 rack.toNat).e0,false)]=true->(0:Int)<=rack/\rack<(r_.1.length:Int))) (
 some (bif (at' r_.1 rack.toNat).e0 then true else(at' r_.1 rack.toNat).e1))
def mU (s_:State) (x:Part):Option Bool:=
 bC (((0:Int)<=x.kind/\x.kind<([([]:List Bool),s_.al,s_.ag,s_.am].length:Int))/\((0:Int)<=x.index/\x.index<((at' [([]:List Bool),s_.al,s_.ag,s_.am] x.kind.toNat).length:Int))) (
 some (at' (at' [([]:List Bool),s_.al,s_.ag,s_.am] x.kind.toNat) x.index.toNat))
def lD (x:Part) (x1:List Bool) (x11:List Bool) (x12:List Bool) (x13:List Bool) (x14:List Bool) (x15:List Bool) (x16:List Bool):Option Bool:=
 (mU (⟨x1,x11,x12,x13,x14,x15,x16⟩:State) x).bind fun r_=>
 some r_
def jM (s_:List Part) (f_:List Bool) (f_1:List Bool) (f_2:List Bool) (f_3:List Bool) (f_4:List Bool) (f_5:List Bool) (f_6:List Bool):Int->Option (aV Int (Ex Unit Int)):=
 fun t8=>
 bif (decide (t8<(s_.length:Int)))then
 (lD (at' s_ t8.toNat) f_ f_1 f_2 f_3 f_4 f_5 f_6).bind fun r_=>
 bC ((0:Int)<=t8/\t8<(s_.length:Int)) (
 bif r_ then
 some (.done (.ret t8))
 else
 some (.next (IntKind.wrap .i64 (t8+1))))
 else
 some (.done (.brk ()))
def iW (s_:List Part) (f_:List Bool) (f_1:List Bool) (f_2:List Bool) (f_3:List Bool) (f_4:List Bool) (f_5:List Bool) (f_6:List Bool):Option Int:=
 Option.bind (ay (jM s_ f_ f_1 f_2 f_3 f_4 f_5 f_6) FUEL (0)) fun o=>match o with
 | .ret v=>some v
 | .brk _=>
 some (-1)
def fU (del:List Bool) (del1:List Bool) (del2:List Bool) (del3:List Bool) (del4:List Bool) (del5:List Bool) (del6:List Bool):((List Part) × Int × Int)->Option (aV ((List Part) × Int × Int) (Ex ((List Part) × Int) (List Part))):=
 fun zz=>match zz with
 |(o_,i,j)=>
 bif (decide (j<(o_.length:Int)))then
 bC ((0:Int)<=j/\j<(o_.length:Int)) (
 (lD (at' o_ j.toNat) del del1 del2 del3 del4 del5 del6).bind fun r_1=>
 bif (!r_1)then
 bC ((0:Int)<=i/\i<(o_.length:Int)) (
 some (.next (o_.set i.toNat (at' o_ j.toNat),IntKind.wrap .i64 (i+1),IntKind.wrap .i64 (j+1))))
 else
 some (.next (o_,i,IntKind.wrap .i64 (j+1))))
 else
 some (.done (.brk (o_,i)))
def iG (s_:List Part) (del:List Bool) (del1:List Bool) (del2:List Bool) (del3:List Bool) (del4:List Bool) (del5:List Bool) (del6:List Bool):Option (List Part):=
 (iW s_ del del1 del2 del3 del4 del5 del6).bind fun r_=>
 bif (decide (r_=(-1)))then
 some s_
 else
 Option.bind (ay (fU del del1 del2 del3 del4 del5 del6) FUEL (s_,r_,IntKind.wrap .i64 (r_+1))) fun o=>match o with
 | .ret v=>some v
 | .brk (o_1,i1)=>
 bC ((0:Int)<=i1/\i1<=(o_1.length:Int)) (
 bC ((0:Int)<=i1/\i1<=((Ak o_1 i1.toNat (⟨0,0⟩:Part)).length:Int)) (
 some ((Ak o_1 i1.toNat (⟨0,0⟩:Part)).take i1.toNat)))
def nE (p:ah) (s_:State):Option (List Part):=
 (jG p).bind fun r_=>
 (iG r_.1 s_.aq s_.aw s_.am s_.on_ s_.ag s_.ar s_.al).bind fun r_1=>
 some r_1
def iO (x:Part) (x1:Int) (x11:List Source) (x12:List Link) (x13:List aL) (x2:List Bool) (x21:List Bool) (x22:List Bool) (x23:List Bool) (x24:List Bool) (x25:List Bool) (x26:List Bool) (x3:Int):Option Bool:=
 (qR (⟨x1,x11,x12,x13⟩:ah) (⟨x2,x21,x22,x23,x24,x25,x26⟩:State) x).bind fun r_=>
 (pu (⟨x1,x11,x12,x13⟩:ah) r_.1 x3).bind fun r_1=>
 some r_1
def iB (s_:List Part) (f_:Int) (f_1:List Source) (f_2:List Link) (f_3:List aL) (f_4:List Bool) (f_5:List Bool) (f_6:List Bool) (f_7:List Bool) (f_8:List Bool) (f_9:List Bool) (f_10:List Bool) (f_11:Int):Int->Option (aV Int (Ex Unit Int)):=
 fun t8=>
 bif (decide (t8<(s_.length:Int)))then
 (iO (at' s_ t8.toNat) f_ f_1 f_2 f_3 f_4 f_5 f_6 f_7 f_8 f_9 f_10 f_11).bind fun r_=>
 bC ((0:Int)<=t8/\t8<(s_.length:Int)) (
 bif r_ then
 some (.done (.ret t8))
 else
 some (.next (IntKind.wrap .i64 (t8+1))))
 else
 some (.done (.brk ()))
def gN (s_:List Part) (f_:Int) (f_1:List Source) (f_2:List Link) (f_3:List aL) (f_4:List Bool) (f_5:List Bool) (f_6:List Bool) (f_7:List Bool) (f_8:List Bool) (f_9:List Bool) (f_10:List Bool) (f_11:Int):Option Int:=
 Option.bind (ay (iB s_ f_ f_1 f_2 f_3 f_4 f_5 f_6 f_7 f_8 f_9 f_10 f_11) FUEL (0)) fun o=>match o with
 | .ret v=>some v
 | .brk _=>
 some (-1)
def kV (a:List Part) (b:List Part):Int->Option (aV Int (Ex Unit Bool)):=
 fun i=>
 bif (decide (i<(a.length:Int)))then
 bC (((0:Int)<=i/\i<(a.length:Int))/\((0:Int)<=i/\i<(b.length:Int))) (
 bif (!((decide (((at' a i.toNat).kind)=((at' b i.toNat).kind))) && ((decide (((at' a i.toNat).index)=((at' b i.toNat).index))) && true)))then
 some (.done (.ret false))
 else
 some (.next (IntKind.wrap .i64 (i+1))))
 else
 some (.done (.brk ()))
def kZ (a:List Part) (b:List Part):Option Bool:=
 bif (!decide ((a.length:Int)=(b.length:Int)))then
 some false
 else
 Option.bind (ay (kV a b) FUEL (0)) fun o=>match o with
 | .ret v=>some v
 | .brk _=>
 some true
def l8 (a:Int) (b:Int):Option Link:=
 some (⟨a,b,3,500,10,([]:List kJ)⟩:Link)
def rW (bp:Int):Option (ah × State):=
 (l8 0 2).bind fun r_=>
 (l8 1 3).bind fun r_1=>
 (l8 2 3).bind fun r_2=>
 bC (((0:Int)<=3)/\((1:Int)*3<=281474976710656)/\((3:Int)<=9223372036854775807)/\((0:Int)<=2)/\((1:Int)*2<=281474976710656)/\((2:Int)<=9223372036854775807)/\((0:Int)<=4)/\((1:Int)*4<=281474976710656)/\((4:Int)<=9223372036854775807)) (
 some ((⟨4,[(⟨0,1,500,bp,20⟩:Source),(⟨1,1,500,bp,20⟩:Source)],[r_,r_1,r_2],[(⟨(⟨2,3⟩:aB),100,2⟩:aL)]⟩:ah),(⟨[true,true,false],List.replicate 3 (false:Bool),List.replicate 3 (false:Bool),[true,true],List.replicate 2 (false:Bool),List.replicate 4 (false:Bool),List.replicate 4 (false:Bool)⟩:State)))
def jS (a:List Bool) (b:List Bool):Int->Option (aV Int (Ex Unit Bool)):=
 fun i=>
 bif (decide (i<(a.length:Int)))then
 bC (((0:Int)<=i/\i<(a.length:Int))/\((0:Int)<=i/\i<(b.length:Int))) (
 bif (!((at' a i.toNat)==(at' b i.toNat)))then
 some (.done (.ret false))
 else
 some (.next (IntKind.wrap .i64 (i+1))))
 else
 some (.done (.brk ()))
def bN (a:List Bool) (b:List Bool):Option Bool:=
 bif (!decide ((a.length:Int)=(b.length:Int)))then
 some false
 else
 Option.bind (ay (jS a b) FUEL (0)) fun o=>match o with
 | .ret v=>some v
 | .brk _=>
 some true
def fV (del:Int) (del1:List Source) (del2:List Link) (del3:List aL) (del4:List Bool) (del5:List Bool) (del6:List Bool) (del7:List Bool) (del8:List Bool) (del9:List Bool) (del10:List Bool) (del11:Int):((List Part) × Int × Int)->Option (aV ((List Part) × Int × Int) (Ex ((List Part) × Int) (List Part))):=
 fun zz=>match zz with
 |(o_,i,j)=>
 bif (decide (j<(o_.length:Int)))then
 bC ((0:Int)<=j/\j<(o_.length:Int)) (
 (iO (at' o_ j.toNat) del del1 del2 del3 del4 del5 del6 del7 del8 del9 del10 del11).bind fun r_1=>
 bif (!r_1)then
 bC ((0:Int)<=i/\i<(o_.length:Int)) (
 some (.next (o_.set i.toNat (at' o_ j.toNat),IntKind.wrap .i64 (i+1),IntKind.wrap .i64 (j+1))))
 else
 some (.next (o_,i,IntKind.wrap .i64 (j+1))))
 else
 some (.done (.brk (o_,i)))
def iD (s_:List Part) (del:Int) (del1:List Source) (del2:List Link) (del3:List aL) (del4:List Bool) (del5:List Bool) (del6:List Bool) (del7:List Bool) (del8:List Bool) (del9:List Bool) (del10:List Bool) (del11:Int):Option (List Part):=
 (gN s_ del del1 del2 del3 del4 del5 del6 del7 del8 del9 del10 del11).bind fun r_=>
 bif (decide (r_=(-1)))then
 some s_
 else
 Option.bind (ay (fV del del1 del2 del3 del4 del5 del6 del7 del8 del9 del10 del11) FUEL (s_,r_,IntKind.wrap .i64 (r_+1))) fun o=>match o with
 | .ret v=>some v
 | .brk (o_1,i1)=>
 bC ((0:Int)<=i1/\i1<=(o_1.length:Int)) (
 bC ((0:Int)<=i1/\i1<=((Ak o_1 i1.toNat (⟨0,0⟩:Part)).length:Int)) (
 some ((Ak o_1 i1.toNat (⟨0,0⟩:Part)).take i1.toNat)))
def dJ (p:ah) (s_:State) (rack:Int):Option ((List Part) × Int):=
 (eH p s_ rack).bind fun r_=>
 bif (!decide (r_=0))then
 some (([]:List Part),r_)
 else
 (pu p s_ rack).bind fun r_1=>
 bif (!r_1)then
 some (([]:List Part),0)
 else
 (nE p s_).bind fun r_2=>
 (iD r_2 p.ap p.aa p.ae p.a_ s_.aq s_.aw s_.am s_.on_ s_.ag s_.ar s_.al rack).bind fun r_3=>
 some (r_3,0)
def nV:Option Bool:=
 (rW 1).bind fun r_=>
 (dZ r_.1 r_.2 0).bind fun r_1=>
 (dJ r_.1 r_.2 0).bind fun r_2=>
 bif (bif (bif (bif (!decide (r_1.2=0))then true else(!decide (r_2.2=0)))then true else(!decide (r_1.1=2)))then true else(!decide ((r_2.1.length:Int)=0)))then
 some false
 else
 bC ((0:Int)<=1/\1<(r_.2.aq.length:Int)) (
 (dZ r_.1 (⟨r_.2.aq.set 1 false,r_.2.aw,r_.2.am,r_.2.on_,r_.2.ag,r_.2.ar,r_.2.al⟩:State) 0).bind fun r_3=>
 (dJ r_.1 (⟨r_.2.aq.set 1 false,r_.2.aw,r_.2.am,r_.2.on_,r_.2.ag,r_.2.ar,r_.2.al⟩:State) 0).bind fun r_4=>
 bif (bif (bif (!decide (r_3.2=0))then true else(!decide (r_4.2=0)))then true else(!decide (r_3.1=1)))then
 some false
 else
 (kZ r_4.1 [(⟨1,0⟩:Part),(⟨1,2⟩:Part),(⟨2,0⟩:Part),(⟨3,0⟩:Part)]).bind fun r_5=>
 bif (!r_5)then
 some false
 else
 bC ((0:Int)<=1/\1<((r_.2.aq.set 1 false).length:Int)) (
 (AR r_.1 (⟨(r_.2.aq.set 1 false).set 1 true,r_.2.aw,r_.2.am,r_.2.on_,r_.2.ag,r_.2.ar,r_.2.al⟩:State) [(⟨3,1,2⟩:Transfer)] [(⟨2,1⟩:Part)]).bind fun r_6=>
 bif (!decide (r_6.2=0))then
 some false
 else
 (bN r_6.1.aq [true,false,true]).bind fun r_7=>
 bif (!r_7)then
 some false
 else
 (rW 0).bind fun r_8=>
 bC ((0:Int)<=1/\1<(r_8.2.aq.length:Int)) (
 (mE r_8.1 (⟨r_8.2.aq.set 1 false,r_8.2.aw,r_8.2.am,r_8.2.on_,r_8.2.ag,r_8.2.ar,r_8.2.al⟩:State) [(⟨3,-1,2⟩:Transfer)]).bind fun r_9=>
 (mE r_8.1 (⟨[false,false,true],r_8.2.aw,r_8.2.am,r_8.2.on_,r_8.2.ag,r_8.2.ar,r_8.2.al⟩:State) [(⟨3,2,1⟩:Transfer),(⟨2,-1,0⟩:Transfer)]).bind fun r_10=>
 bC ((0:Int)<=0/\0<(r_8.2.am.length:Int)) (
 (mE r_8.1 (⟨[true,false,false],r_8.2.aw,r_8.2.am.set 0 true,r_8.2.on_,r_8.2.ag,r_8.2.ar,r_8.2.al⟩:State) [(⟨2,-1,2⟩:Transfer),(⟨3,-1,1⟩:Transfer)]).bind fun r_11=>
 bif (bif (bif (decide (r_9.2.2=0))then(decide (r_10.2.2=0))else false)then(decide (r_11.2.2=0))else false)then
 (qy r_9.2.1 [0]).bind fun r_12=>
 bif (bif (bif r_12 then(decide ((r_9.1.aq.length:Int)=3))else false)then(at' r_9.1.aq 2)else false)then
 (qy r_10.2.1 [0,1]).bind fun r_13=>
 bif r_13 then
 (bN r_10.1.aq [true,true,false]).bind fun r_14=>
 bif r_14 then
 (qy r_11.2.1 [1,0]).bind fun r_15=>
 bif r_15 then
 (bN r_11.1.aq [true,true,true]).bind fun r_16=>
 bC (gB [((bif r_12 then(decide ((r_9.1.aq.length:Int)=3))else false),true)]=true->(0:Int)<=2/\2<(r_9.1.aq.length:Int)) (
 some r_16)
 else
 bC (gB [((bif r_12 then(decide ((r_9.1.aq.length:Int)=3))else false),true)]=true->(0:Int)<=2/\2<(r_9.1.aq.length:Int)) (
 some false)
 else
 bC (gB [((bif r_12 then(decide ((r_9.1.aq.length:Int)=3))else false),true)]=true->(0:Int)<=2/\2<(r_9.1.aq.length:Int)) (
 some false)
 else
 bC (gB [((bif r_12 then(decide ((r_9.1.aq.length:Int)=3))else false),true)]=true->(0:Int)<=2/\2<(r_9.1.aq.length:Int)) (
 some false)
 else
 bC (gB [((bif r_12 then(decide ((r_9.1.aq.length:Int)=3))else false),true)]=true->(0:Int)<=2/\2<(r_9.1.aq.length:Int)) (
 some false)
 else
 some false))))
def dG (l:List Bool):Option (List Bool):=
 bC ((l.length*1<=140737488355328)/\(l.length<=4611686018427387904)) (
 some l)
def ow (x:State):Option State:=
 (dG x.aq).bind fun r_=>
 (dG x.aw).bind fun r_1=>
 (dG x.am).bind fun r_2=>
 (dG x.on_).bind fun r_3=>
 (dG x.ag).bind fun r_4=>
 (dG x.ar).bind fun r_5=>
 (dG x.al).bind fun r_6=>
 some (⟨r_,r_1,r_2,r_3,r_4,r_5,r_6⟩:State)
def oH (a:State) (b:State):Option Bool:=
 (bN a.aq b.aq).bind fun r_=>
 (bif gB [(r_,true)]then bN a.aw b.aw else some default).bind fun r_1=>
 (bif gB [((bif r_ then r_1 else false),true)]then bN a.am b.am else some default).bind fun r_2=>
 (bif gB [((bif (bif r_ then r_1 else false)then r_2 else false),true)]then bN a.on_ b.on_ else some default).bind fun r_3=>
 (bif gB [((bif (bif (bif r_ then r_1 else false)then r_2 else false)then r_3 else false),true)]then bN a.ag b.ag else some default).bind fun r_4=>
 (bif gB [((bif (bif (bif (bif r_ then r_1 else false)then r_2 else false)then r_3 else false)then r_4 else false),true)]then bN a.ar b.ar else some default).bind fun r_5=>
 (bif gB [((bif (bif (bif (bif (bif r_ then r_1 else false)then r_2 else false)then r_3 else false)then r_4 else false)then r_5 else false),true)]then bN a.al b.al else some default).bind fun r_6=>
 some (bif (bif (bif (bif (bif (bif r_ then r_1 else false)then r_2 else false)then r_3 else false)then r_4 else false)then r_5 else false)then r_6 else false)
def oD (x:Link):Int->Option (aV Int (Ex Unit Bool)):=
 fun i=>
 bif (decide (i<(x.trip.length:Int)))then
 bC ((0:Int)<=i/\i<(x.trip.length:Int)) (
 bif (bif (bif (bif (decide (((at' x.trip i.toNat).br)<1))then true else(decide (1000000<((at' x.trip i.toNat).br))))then true else(decide (((at' x.trip i.toNat).bj)<1)))then true else(decide (100000<((at' x.trip i.toNat).bj))))then
 some (.done (.ret false))
 else
 bC ((gB [(decide (0<i),true)]=true->(0:Int)<=(IntKind.wrap .i64 (i - 1))/\(IntKind.wrap .i64 (i - 1))<(x.trip.length:Int))/\(gB [(decide (((at' x.trip i.toNat).br)<=((at' x.trip ((IntKind.wrap .i64 (i - 1)).toNat)).br)),false),(decide (0<i),true)]=true->(0:Int)<=(IntKind.wrap .i64 (i - 1))/\(IntKind.wrap .i64 (i - 1))<(x.trip.length:Int))) (
 bif (bif (decide (0<i))then(bif (decide (((at' x.trip i.toNat).br)<=((at' x.trip ((IntKind.wrap .i64 (i - 1)).toNat)).br)))then true else(decide (((at' x.trip ((IntKind.wrap .i64 (i - 1)).toNat)).bj)<=((at' x.trip i.toNat).bj))))else false)then
 some (.done (.ret false))
 else
 some (.next (IntKind.wrap .i64 (i+1)))))
 else
 some (.done (.brk ()))
def sP (p:ah) (x:Link):Option Bool:=
 bif (bif (bif (bif (bif (bif (bif (bif (bif (bif (bif (decide (x.a<0))then true else(decide (p.ap<=x.a)))then true else(decide (x.b<0)))then true else(decide (p.ap<=x.b)))then true else(decide (x.a=x.b)))then true else(decide (x.kind<1)))then true else(decide (3<x.kind)))then true else(decide (x.most<1)))then true else(decide (100000<x.most)))then true else(decide (x.ohm<10)))then true else(decide (100000<x.ohm)))then
 some false
 else
 bif (bif (decide (6<(x.trip.length:Int)))then true else(bif (decide (0<(x.trip.length:Int)))then(!decide (x.kind=3))else false))then
 some false
 else
 Option.bind (ay (oD x) FUEL (0)) fun o=>match o with
 | .ret v=>some v
 | .brk _=>
 some true
def nH (p:ah):Int->Option (aV Int (Ex Unit Int)):=
 fun i=>
 bif (decide (i<(p.aa.length:Int)))then
 bC ((0:Int)<=i/\i<(p.aa.length:Int)) (
 bif (bif (bif (bif (bif (bif (bif (bif (bif (bif (decide (((at' p.aa i.toNat).bus)<0))then true else(decide (p.ap<=((at' p.aa i.toNat).bus))))then true else(decide (((at' p.aa i.toNat).kind)<1)))then true else(decide (3<((at' p.aa i.toNat).kind))))then true else(decide (((at' p.aa i.toNat).power)<1)))then true else(decide (100000<((at' p.aa i.toNat).power))))then true else(decide (((at' p.aa i.toNat).bp)<0)))then true else(decide (8<((at' p.aa i.toNat).bp))))then true else(decide (((at' p.aa i.toNat).ohm)<10)))then true else(decide (100000<((at' p.aa i.toNat).ohm))))then
 some (.done (.ret 11))
 else
 some (.next (IntKind.wrap .i64 (i+1))))
 else
 some (.done (.brk ()))
def nA (p:ah):Int->Option (aV Int (Ex Unit Int)):=
 fun i1=>
 bif (decide (i1<(p.ae.length:Int)))then
 (sP p (at' p.ae i1.toNat)).bind fun r_=>
 bC ((0:Int)<=i1/\i1<(p.ae.length:Int)) (
 bif (!r_)then
 some (.done (.ret 12))
 else
 some (.next (IntKind.wrap .i64 (i1+1))))
 else
 some (.done (.brk ()))
def nD (p:ah):Int->Option (aV Int (Ex Unit Int)):=
 fun i2=>
 bif (decide (i2<(p.a_.length:Int)))then
 bC ((0:Int)<=i2/\i2<(p.a_.length:Int)) (
 bif (decide ((((at' p.a_ i2.toNat).ba).e1)=(-1)))then
 bif (bif (bif (bif (bif (bif (bif (bif (bif (decide ((((at' p.a_ i2.toNat).ba).e0)<0))then true else(decide (p.ap<=(((at' p.a_ i2.toNat).ba).e0))))then true else(decide ((((at' p.a_ i2.toNat).ba).e1)<(-1))))then true else(decide (p.ap<=(((at' p.a_ i2.toNat).ba).e1))))then true else(decide ((((at' p.a_ i2.toNat).ba).e0)=(((at' p.a_ i2.toNat).ba).e1))))then true else(decide (((at' p.a_ i2.toNat).power)<1)))then true else(decide (100000<((at' p.a_ i2.toNat).power))))then true else(decide (((at' p.a_ i2.toNat).bm)<0)))then true else(decide (1<((at' p.a_ i2.toNat).bm))))then
 some (.done (.ret 13))
 else
 some (.next (IntKind.wrap .i64 (i2+1)))
 else
 bif (bif (bif (bif (bif (bif (bif (bif (bif (decide ((((at' p.a_ i2.toNat).ba).e0)<0))then true else(decide (p.ap<=(((at' p.a_ i2.toNat).ba).e0))))then true else(decide ((((at' p.a_ i2.toNat).ba).e1)<(-1))))then true else(decide (p.ap<=(((at' p.a_ i2.toNat).ba).e1))))then true else(decide ((((at' p.a_ i2.toNat).ba).e0)=(((at' p.a_ i2.toNat).ba).e1))))then true else(decide (((at' p.a_ i2.toNat).power)<1)))then true else(decide (100000<((at' p.a_ i2.toNat).power))))then true else(decide (((at' p.a_ i2.toNat).bm)<0)))then true else(decide (2<((at' p.a_ i2.toNat).bm))))then
 some (.done (.ret 13))
 else
 some (.next (IntKind.wrap .i64 (i2+1))))
 else
 some (.done (.brk ()))
def lI (p:ah):Option Int:=
 bif (bif (decide (p.ap<1))then true else(decide (24<p.ap)))then
 some 10
 else
 bif (decide (8<(p.aa.length:Int)))then
 some 11
 else
 Option.bind (ay (nH p) FUEL (0)) fun o=>match o with
 | .ret v=>some v
 | .brk _=>
 bif (decide (40<(p.ae.length:Int)))then
 some 12
 else
 Option.bind (ay (nA p) FUEL (0)) fun o=>match o with
 | .ret v=>some v
 | .brk _=>
 bif (decide (24<(p.a_.length:Int)))then
 some 13
 else
 Option.bind (ay (nD p) FUEL (0)) fun o=>match o with
 | .ret v=>some v
 | .brk _=>
 some 0
def o7 (p:ah):Option Bool:=
 bif (bif (bif (decide (60<(p.aa.length:Int)))then true else(decide (60<(p.ae.length:Int))))then true else(decide (60<(p.a_.length:Int))))then
 some true
 else
 (lI p).bind fun r_=>
 some (bif (decide (r_=0))then(bif (decide (7<p.ap))then true else(decide (12<(p.ae.length:Int))))else false)
def pO (l:List Source):Option (List Source):=
 bC ((l.length*40<=140737488355328)/\(l.length<=4611686018427387904)) (
 some l)
def rT (l:List kJ):Option (List kJ):=
 bC ((l.length*16<=140737488355328)/\(l.length<=4611686018427387904)) (
 some l)
def qi (x:Link):Option Link:=
 (rT x.trip).bind fun r_=>
 some (⟨x.a,x.b,x.kind,x.most,x.ohm,r_⟩:Link)
def gI (l:List Link):((List Link) × Int)->Option (aV ((List Link) × Int) (Ex (List Link) (List Link))):=
 fun zz=>match zz with
 |(out,i)=>
 bif (decide (i<(l.length:Int)))then
 (qi (at' l i.toNat)).bind fun r_=>
 bC (((0:Int)<=i/\i<(l.length:Int))/\((out.length+[r_].length)*64<=140737488355328)/\(out.length+[r_].length<=4611686018427387904)) (
 some (.next (out++[r_],IntKind.wrap .i64 (i+1))))
 else
 some (.done (.brk out))
def rX (l:List Link):Option (List Link):=
 Option.bind (ay (gI l) FUEL (([]:List Link),0)) fun o=>match o with
 | .ret v=>some v
 | .brk out1=>
 some out1
def rU (l:List aL):Option (List aL):=
 bC ((l.length*32<=140737488355328)/\(l.length<=4611686018427387904)) (
 some l)
def oG (x:ah):Option ah:=
 (pO x.aa).bind fun r_=>
 (rX x.ae).bind fun r_1=>
 (rU x.a_).bind fun r_2=>
 some (⟨x.ap,r_,r_1,r_2⟩:ah)
def xA (x:Int) (n:Int):Option Int:=
 bif (decide (n<1))then
 some 0
 else
 bC (n≠(0:Int)) (
 bif (decide ((Int.tmod x n)<0))then
 some (IntKind.wrap .i64 ((Int.tmod x n)+n))
 else
 some (Int.tmod x n))
def nC (p:ah) (s_:State):Int->Option (aV Int (Ex Unit Bool)):=
 fun i=>
 bif (decide (i<(p.ae.length:Int)))then
 bC (((0:Int)<=i/\i<(p.ae.length:Int))/\(gB [(decide (((at' p.ae i.toNat).kind)=1),true)]=true->(0:Int)<=i/\i<(s_.aq.length:Int))/\(gB [(!(at' s_.aq i.toNat),false),(decide (((at' p.ae i.toNat).kind)=1),true)]=true->(0:Int)<=i/\i<(s_.aw.length:Int))) (
 bif (bif (decide (((at' p.ae i.toNat).kind)=1))then(bif (!(at' s_.aq i.toNat))then true else(at' s_.aw i.toNat))else false)then
 some (.done (.ret false))
 else
 some (.next (IntKind.wrap .i64 (i+1))))
 else
 some (.done (.brk ()))
def qN (p:ah) (s_:State):Option Bool:=
 bif (bif (bif (bif (bif (bif (bif (!decide ((s_.aq.length:Int)=(p.ae.length:Int)))then true else(!decide ((s_.aw.length:Int)=(p.ae.length:Int))))then true else(!decide ((s_.am.length:Int)=(p.ae.length:Int))))then true else(!decide ((s_.on_.length:Int)=(p.aa.length:Int))))then true else(!decide ((s_.ag.length:Int)=(p.aa.length:Int))))then true else(!decide ((s_.ar.length:Int)=p.ap)))then true else(!decide ((s_.al.length:Int)=p.ap)))then
 some false
 else
 Option.bind (ay (nC p s_) FUEL (0)) fun o=>match o with
 | .ret v=>some v
 | .brk _=>
 some true
def gG (p:ah) (s_:State):Option Int:=
 (lI p).bind fun r_=>
 (bif gB [(decide (r_=0),true)]then qN p s_ else some default).bind fun r_1=>
 bif (bif (decide (r_=0))then(!r_1)else false)then
 some 9
 else
 some r_
def eG (p:ah) (s_:State) (rack:Int):Option Int:=
 (gG p s_).bind fun r_=>
 bif (bif (decide (r_=0))then(bif (decide (rack<0))then true else(decide ((p.a_.length:Int)<=rack)))else false)then
 some 13
 else
 some r_
def lN (p:ah) (s_:State) (kz:Int):Option Bool:=
 bC (((0:Int)<=kz/\kz<(s_.on_.length:Int))/\(gB [(at' s_.on_ kz.toNat,true)]=true->(0:Int)<=kz/\kz<(s_.ag.length:Int))/\(gB [((bif (at' s_.on_ kz.toNat)then(!(at' s_.ag kz.toNat))else false),true)]=true->(0:Int)<=kz/\kz<(p.aa.length:Int))/\(gB [((bif (at' s_.on_ kz.toNat)then(!(at' s_.ag kz.toNat))else false),true)]=true->(0:Int)<=(at' p.aa kz.toNat).bus/\(at' p.aa kz.toNat).bus<(s_.al.length:Int))) (
 some (bif (bif (at' s_.on_ kz.toNat)then(!(at' s_.ag kz.toNat))else false)then(!(at' s_.al (((at' p.aa kz.toNat).bus).toNat)))else false))
def ic (l:List Part):Option (List Part):=
 bC ((l.length*16<=140737488355328)/\(l.length<=4611686018427387904)) (
 some l)
def vW (l:List Part) (x:Part):Int->Option (aV Int (Ex Unit Bool)):=
 fun i=>
 bif (decide (i<(l.length:Int)))then
 bC ((0:Int)<=i/\i<(l.length:Int)) (
 bif ((decide (((at' l i.toNat).kind)=x.kind)) && ((decide (((at' l i.toNat).index)=x.index)) && true))then
 some (.done (.ret true))
 else
 some (.next (IntKind.wrap .i64 (i+1))))
 else
 some (.done (.brk ()))
def oU (l:List Part) (x:Part):Option Bool:=
 Option.bind (ay (vW l x) FUEL (0)) fun o=>match o with
 | .ret v=>some v
 | .brk _=>
 some false
def gJ (p:ah) (s_:State) (i:Int):Option Bool:=
 bC (((0:Int)<=i/\i<(s_.aq.length:Int))/\(gB [(at' s_.aq i.toNat,true)]=true->(0:Int)<=i/\i<(s_.am.length:Int))/\(gB [((bif (at' s_.aq i.toNat)then(!(at' s_.am i.toNat))else false),true)]=true->(0:Int)<=i/\i<(p.ae.length:Int))/\(gB [((bif (at' s_.aq i.toNat)then(!(at' s_.am i.toNat))else false),true)]=true->(0:Int)<=(at' p.ae i.toNat).a/\(at' p.ae i.toNat).a<(s_.al.length:Int))/\(gB [((bif (bif (at' s_.aq i.toNat)then(!(at' s_.am i.toNat))else false)then(!(at' s_.al (((at' p.ae i.toNat).a).toNat)))else false),true)]=true->(0:Int)<=i/\i<(p.ae.length:Int))/\(gB [((bif (bif (at' s_.aq i.toNat)then(!(at' s_.am i.toNat))else false)then(!(at' s_.al (((at' p.ae i.toNat).a).toNat)))else false),true)]=true->(0:Int)<=(at' p.ae i.toNat).b/\(at' p.ae i.toNat).b<(s_.al.length:Int))) (
 some (bif (bif (bif (at' s_.aq i.toNat)then(!(at' s_.am i.toNat))else false)then(!(at' s_.al (((at' p.ae i.toNat).a).toNat)))else false)then(!(at' s_.al (((at' p.ae i.toNat).b).toNat)))else false))
def qh (p:ah) (rack:Int) (b:Int):Option Bool:=
 bC (((0:Int)<=rack/\rack<(p.a_.length:Int))/\(gB [(decide ((((at' p.a_ rack.toNat).ba).e0)=b),false)]=true->(0:Int)<=rack/\rack<(p.a_.length:Int))) (
 some (bif (decide ((((at' p.a_ rack.toNat).ba).e0)=b))then true else(decide ((((at' p.a_ rack.toNat).ba).e1)=b))))
def lQ (rec:ah->State->Int->(List Part)->Option (List (List Part))) (p:ah) (s_:State) (rack:Int) (l:List Part):((List (List Part)) × Int)->Option (aV ((List (List Part)) × Int) (Ex (List (List Part)) (List (List Part)))):=
 fun zz=>match zz with
 |(out,i)=>
 bif (decide (i<(p.ae.length:Int)))then
 bC ((0:Int)<=i/\i<(p.ae.length:Int)) (
 (gJ p s_ i).bind fun r_1=>
 bif (bif (!r_1)then true else(bif (!decide (((at' p.ae i.toNat).a)=((at' l ((IntKind.wrap .i64 ((l.length:Int) - 1)).toNat)).index)))then(!decide (((at' p.ae i.toNat).b)=((at' l ((IntKind.wrap .i64 ((l.length:Int) - 1)).toNat)).index)))else false))then
 some (.next (out,IntKind.wrap .i64 (i+1)))
 else
 (oU l (⟨1,IntKind.wrap .i64 ((IntKind.wrap .i64 (((at' p.ae i.toNat).a)+((at' p.ae i.toNat).b))) - ((at' l ((IntKind.wrap .i64 ((l.length:Int) - 1)).toNat)).index))⟩:Part)).bind fun r_2=>
 bif r_2 then
 some (.next (out,IntKind.wrap .i64 (i+1)))
 else
 (ic l).bind fun r_3=>
 bC (((r_3.length+[(⟨3,i⟩:Part),(⟨1,IntKind.wrap .i64 ((IntKind.wrap .i64 (((at' p.ae i.toNat).a)+((at' p.ae i.toNat).b))) - ((at' l ((IntKind.wrap .i64 ((l.length:Int) - 1)).toNat)).index))⟩:Part)].length)*16<=140737488355328)/\(r_3.length+[(⟨3,i⟩:Part),(⟨1,IntKind.wrap .i64 ((IntKind.wrap .i64 (((at' p.ae i.toNat).a)+((at' p.ae i.toNat).b))) - ((at' l ((IntKind.wrap .i64 ((l.length:Int) - 1)).toNat)).index))⟩:Part)].length<=4611686018427387904)) (
 (rec p s_ rack (r_3++[(⟨3,i⟩:Part),(⟨1,IntKind.wrap .i64 ((IntKind.wrap .i64 (((at' p.ae i.toNat).a)+((at' p.ae i.toNat).b))) - ((at' l ((IntKind.wrap .i64 ((l.length:Int) - 1)).toNat)).index))⟩:Part)])).bind fun r_4=>
 bC (((out.length+r_4.length)*24<=140737488355328)/\(out.length+r_4.length<=4611686018427387904)) (
 some (.next (out++r_4,IntKind.wrap .i64 (i+1))))))
 else
 some (.done (.brk out))
def A7 (rec:ah->State->Int->(List Part)->Option (List (List Part))) (p:ah) (s_:State) (rack:Int) (l:List Part):((List (List Part)) × Int)->Option (aV ((List (List Part)) × Int) (Ex (List (List Part)) (List (List Part)))):=
 fun zz=>match zz with
 |(out2,i1)=>
 bif (decide (i1<(p.ae.length:Int)))then
 bC ((0:Int)<=i1/\i1<(p.ae.length:Int)) (
 (gJ p s_ i1).bind fun r_5=>
 bif (bif (!r_5)then true else(bif (!decide (((at' p.ae i1.toNat).a)=((at' l ((IntKind.wrap .i64 ((l.length:Int) - 1)).toNat)).index)))then(!decide (((at' p.ae i1.toNat).b)=((at' l ((IntKind.wrap .i64 ((l.length:Int) - 1)).toNat)).index)))else false))then
 some (.next (out2,IntKind.wrap .i64 (i1+1)))
 else
 (oU l (⟨1,IntKind.wrap .i64 ((IntKind.wrap .i64 (((at' p.ae i1.toNat).a)+((at' p.ae i1.toNat).b))) - ((at' l ((IntKind.wrap .i64 ((l.length:Int) - 1)).toNat)).index))⟩:Part)).bind fun r_6=>
 bif r_6 then
 some (.next (out2,IntKind.wrap .i64 (i1+1)))
 else
 (ic l).bind fun r_7=>
 bC (((r_7.length+[(⟨3,i1⟩:Part),(⟨1,IntKind.wrap .i64 ((IntKind.wrap .i64 (((at' p.ae i1.toNat).a)+((at' p.ae i1.toNat).b))) - ((at' l ((IntKind.wrap .i64 ((l.length:Int) - 1)).toNat)).index))⟩:Part)].length)*16<=140737488355328)/\(r_7.length+[(⟨3,i1⟩:Part),(⟨1,IntKind.wrap .i64 ((IntKind.wrap .i64 (((at' p.ae i1.toNat).a)+((at' p.ae i1.toNat).b))) - ((at' l ((IntKind.wrap .i64 ((l.length:Int) - 1)).toNat)).index))⟩:Part)].length<=4611686018427387904)) (
 (rec p s_ rack (r_7++[(⟨3,i1⟩:Part),(⟨1,IntKind.wrap .i64 ((IntKind.wrap .i64 (((at' p.ae i1.toNat).a)+((at' p.ae i1.toNat).b))) - ((at' l ((IntKind.wrap .i64 ((l.length:Int) - 1)).toNat)).index))⟩:Part)])).bind fun r_8=>
 bC (((out2.length+r_8.length)*24<=140737488355328)/\(out2.length+r_8.length<=4611686018427387904)) (
 some (.next (out2++r_8,IntKind.wrap .i64 (i1+1))))))
 else
 some (.done (.brk out2))
def oI (rec:ah->State->Int->(List Part)->Option (List (List Part))) (p:ah) (s_:State) (rack:Int) (l:List Part):Option (List (List Part)):=
 bC ((0:Int)<=(IntKind.wrap .i64 ((l.length:Int) - 1))/\(IntKind.wrap .i64 ((l.length:Int) - 1))<(l.length:Int)) (
 (qh p rack ((at' l ((IntKind.wrap .i64 ((l.length:Int) - 1)).toNat)).index)).bind fun r_=>
 bif r_ then
 bC (([l].length*24<=140737488355328)/\([l].length<=4611686018427387904)) (
 Option.bind (ay (lQ rec p s_ rack l) FUEL ([l],0)) fun o=>match o with
 | .ret v=>some v
 | .brk out1=>
 some out1)
 else
 Option.bind (ay (A7 rec p s_ rack l) FUEL (([]:List (List Part)),0)) fun o=>match o with
 | .ret v=>some v
 | .brk out3=>
 some out3)
def iQ:Nat->ah->State->Int->(List Part)->Option (List (List Part))
 |0,_,_,_,_=>none
 |n+1,p,s_,rack,l=>oI (iQ n) p s_ rack l
def qd (p:ah) (s_:State) (rack:Int):((List (List Part)) × Int)->Option (aV ((List (List Part)) × Int) (Ex (List (List Part)) (List (List Part)))):=
 fun zz=>match zz with
 |(out,kz)=>
 bif (decide (kz<(p.aa.length:Int)))then
 (lN p s_ kz).bind fun r_=>
 bif r_ then
 (iQ FUEL p s_ rack [(⟨2,kz⟩:Part),(⟨1,(at' p.aa kz.toNat).bus⟩:Part)]).bind fun r_1=>
 bC (((0:Int)<=kz/\kz<(p.aa.length:Int))/\((out.length+r_1.length)*24<=140737488355328)/\(out.length+r_1.length<=4611686018427387904)) (
 some (.next (out++r_1,IntKind.wrap .i64 (kz+1))))
 else
 some (.next (out,IntKind.wrap .i64 (kz+1)))
 else
 some (.done (.brk out))
def vv (p:ah) (s_:State) (rack:Int):Option (List (List Part)):=
 Option.bind (ay (qd p s_ rack) FUEL (([]:List (List Part)),0)) fun o=>match o with
 | .ret v=>some v
 | .brk out1=>
 some out1
def nU (a:List Part) (b:List Part):Int->Option (aV Int (Ex Unit Bool)):=
 fun i=>
 bif (decide (i<(a.length:Int)))then
 (oU b (at' a i.toNat)).bind fun r_=>
 bC ((0:Int)<=i/\i<(a.length:Int)) (
 bif r_ then
 some (.done (.ret false))
 else
 some (.next (IntKind.wrap .i64 (i+1))))
 else
 some (.done (.brk ()))
def kI (a:List Part) (b:List Part):Option Bool:=
 Option.bind (ay (nU a b) FUEL (0)) fun o=>match o with
 | .ret v=>some v
 | .brk _=>
 some true
def jR (r_1:List (List Part)) (i:Int):Int->Option (aV Int (Ex Unit (aV Int (Ex Unit (Int × Int))))):=
 fun kz=>
 bif (decide (kz<i))then
 (kI (at' r_1 i.toNat) (at' r_1 kz.toNat)).bind fun r_2=>
 bC (((0:Int)<=i/\i<(r_1.length:Int))/\((0:Int)<=kz/\kz<(r_1.length:Int))) (
 bif r_2 then
 some (.done (.ret (.done (.ret (2,0)))))
 else
 some (.next (IntKind.wrap .i64 (kz+1))))
 else
 some (.done (.brk ()))
def jW (r_1:List (List Part)):Int->Option (aV Int (Ex Unit (Int × Int))):=
 fun i=>
 bif (decide (i<(r_1.length:Int)))then
 Option.bind (ay (jR r_1 i) FUEL (0)) fun o=>match o with
 | .ret v=>some v
 | .brk _=>
 some (.next (IntKind.wrap .i64 (i+1)))
 else
 some (.done (.brk ()))
def iL (p:ah) (s_:State) (rack:Int):Option (Int × Int):=
 (eG p s_ rack).bind fun r_=>
 bif (!decide (r_=0))then
 some (0,r_)
 else
 (vv p s_ rack).bind fun r_1=>
 Option.bind (ay (jW r_1) FUEL (0)) fun o=>match o with
 | .ret v=>some v
 | .brk _=>
 some ((if 1<(r_1.length:Int)then 1 else(r_1.length:Int)),0)
def bH (p:ah) (s_:State) (l:List Part):(Int × Int)->Option (aV (Int × Int) (Ex Int Bool)):=
 fun zz=>match zz with
 |(at_,i)=>
 bif (decide (i<(l.length:Int)))then
 bC ((0:Int)<=i/\i<(l.length:Int)) (
 bif (decide (i=0))then
 (bif gB [((bif (bif (!decide (((at' l i.toNat).kind)=2))then true else(decide (((at' l i.toNat).index)<0)))then true else(decide ((p.aa.length:Int)<=((at' l i.toNat).index)))),false)]then lN p s_ ((at' l i.toNat).index)else some default).bind fun r_=>
 bif (bif (bif (bif (!decide (((at' l i.toNat).kind)=2))then true else(decide (((at' l i.toNat).index)<0)))then true else(decide ((p.aa.length:Int)<=((at' l i.toNat).index))))then true else(!r_))then
 some (.done (.ret false))
 else
 bC ((0:Int)<=(at' l i.toNat).index/\(at' l i.toNat).index<(p.aa.length:Int)) (
 some (.next ((at' p.aa (((at' l i.toNat).index).toNat)).bus,IntKind.wrap .i64 (i+1))))
 else
 bC (2≠(0:Int)) (
 bif (decide ((Int.tmod i 2)=1))then
 (bif gB [((bif (!decide (((at' l i.toNat).kind)=1))then true else(!decide (((at' l i.toNat).index)=at_))),false)]then oU (nW l 0 i.toNat) (at' l i.toNat)else some default).bind fun r_1=>
 bC (gB [((bif (!decide (((at' l i.toNat).kind)=1))then true else(!decide (((at' l i.toNat).index)=at_))),false)]=true->(0:Int)<=i/\i<=(l.length:Int)) (
 bif (bif (bif (!decide (((at' l i.toNat).kind)=1))then true else(!decide (((at' l i.toNat).index)=at_)))then true else r_1)then
 some (.done (.ret false))
 else
 some (.next (at_,IntKind.wrap .i64 (i+1))))
 else
 (bif gB [((bif (bif (!decide (((at' l i.toNat).kind)=3))then true else(decide (((at' l i.toNat).index)<0)))then true else(decide ((p.ae.length:Int)<=((at' l i.toNat).index)))),false)]then gJ p s_ ((at' l i.toNat).index)else some default).bind fun r_2=>
 bif (bif (bif (bif (!decide (((at' l i.toNat).kind)=3))then true else(decide (((at' l i.toNat).index)<0)))then true else(decide ((p.ae.length:Int)<=((at' l i.toNat).index))))then true else(!r_2))then
 some (.done (.ret false))
 else
 bC ((0:Int)<=(at' l i.toNat).index/\(at' l i.toNat).index<(p.ae.length:Int)) (
 bif (bif (!decide (((at' p.ae (((at' l i.toNat).index).toNat)).a)=at_))then(!decide (((at' p.ae (((at' l i.toNat).index).toNat)).b)=at_))else false)then
 some (.done (.ret false))
 else
 some (.next (IntKind.wrap .i64 ((IntKind.wrap .i64 (((at' p.ae (((at' l i.toNat).index).toNat)).a)+((at' p.ae (((at' l i.toNat).index).toNat)).b))) - at_),IntKind.wrap .i64 (i+1))))))
 else
 some (.done (.brk at_))
def lJ (p:ah) (s_:State) (rack:Int) (l:List Part):Option Bool:=
 bC (gB [(decide ((l.length:Int)=0),false)]=true->2≠(0:Int)) (
 bif (bif (decide ((l.length:Int)=0))then true else(!decide ((Int.tmod (l.length:Int) 2)=0)))then
 some false
 else
 Option.bind (ay (bH p s_ l) FUEL (-1,0)) fun o=>match o with
 | .ret v=>some v
 | .brk at_1=>
 (qh p rack at_1).bind fun r_3=>
 some r_3)
def jm (l:List (List Part)) (i:Int):Int->Option (aV Int (Ex Unit (aV Int (Ex Unit Int)))):=
 fun kz=>
 bif (decide (kz<i))then
 (kI (at' l i.toNat) (at' l kz.toNat)).bind fun r_2=>
 bC (((0:Int)<=i/\i<(l.length:Int))/\((0:Int)<=kz/\kz<(l.length:Int))) (
 bif (!r_2)then
 some (.done (.ret (.done (.ret 7))))
 else
 some (.next (IntKind.wrap .i64 (kz+1))))
 else
 some (.done (.brk ()))
def jh (p:ah) (s_:State) (rack:Int) (l:List (List Part)):Int->Option (aV Int (Ex Unit Int)):=
 fun i=>
 bif (decide (i<(l.length:Int)))then
 (lJ p s_ rack (at' l i.toNat)).bind fun r_1=>
 bC ((0:Int)<=i/\i<(l.length:Int)) (
 bif (!r_1)then
 some (.done (.ret 7))
 else
 Option.bind (ay (jm l i) FUEL (0)) fun o=>match o with
 | .ret v=>some v
 | .brk _=>
 some (.next (IntKind.wrap .i64 (i+1))))
 else
 some (.done (.brk ()))
def fJ (p:ah) (s_:State) (rack:Int) (l:List (List Part)):Option Int:=
 (eG p s_ rack).bind fun r_=>
 bif (!decide (r_=0))then
 some r_
 else
 Option.bind (ay (jh p s_ rack l) FUEL (0)) fun o=>match o with
 | .ret v=>some v
 | .brk _=>
 some 0
def nM (l:List Bool) (i:Int) (is:Bool):Option (List Bool):=
 bC (((([]:List Bool).length+l.length)*1<=140737488355328)/\(([]:List Bool).length+l.length<=4611686018427387904)) (
 bC ((0:Int)<=i/\i<((([]:List Bool)++l).length:Int)) (
 some ((([]:List Bool)++l).set i.toNat is)))
def pU (p:ah) (s_:State) (x:Part) (is:Bool):Option (State × Int):=
 (gG p s_).bind fun r_=>
 bif (!decide (r_=0))then
 some ((⟨([]:List Bool),([]:List Bool),([]:List Bool),([]:List Bool),([]:List Bool),([]:List Bool),([]:List Bool)⟩:State),r_)
 else
 bif (decide (x.index<0))then
 some ((⟨([]:List Bool),([]:List Bool),([]:List Bool),([]:List Bool),([]:List Bool),([]:List Bool),([]:List Bool)⟩:State),14)
 else
 bif (bif (decide (x.kind=1))then(decide (x.index<p.ap))else false)then
 (nM s_.al x.index is).bind fun r_1=>
 some ((⟨s_.aq,s_.aw,s_.am,s_.on_,s_.ag,s_.ar,r_1⟩:State),0)
 else
 bif (bif (decide (x.kind=2))then(decide (x.index<(p.aa.length:Int)))else false)then
 (nM s_.ag x.index is).bind fun r_2=>
 some ((⟨s_.aq,s_.aw,s_.am,s_.on_,r_2,s_.ar,s_.al⟩:State),0)
 else
 bif (bif (decide (x.kind=3))then(decide (x.index<(p.ae.length:Int)))else false)then
 (nM s_.am x.index is).bind fun r_3=>
 some ((⟨s_.aq,s_.aw,r_3,s_.on_,s_.ag,s_.ar,s_.al⟩:State),0)
 else
 some ((⟨([]:List Bool),([]:List Bool),([]:List Bool),([]:List Bool),([]:List Bool),([]:List Bool),([]:List Bool)⟩:State),14)
def kg (p:ah) (s_:State) (b:Int):((List Bool) × Int)->Option (aV ((List Bool) × Int) (Ex (List Bool) (aV ((List Bool) × Int) (Ex (List Bool) (List Bool))))):=
 fun zz=>match zz with
 |(out2,i)=>
 bif (decide (i<(p.ae.length:Int)))then
 bC ((0:Int)<=i/\i<(p.ae.length:Int)) (
 (gJ p s_ i).bind fun r_=>
 bC ((gB [(r_,true)]=true->(0:Int)<=(at' p.ae i.toNat).a/\(at' p.ae i.toNat).a<(out2.length:Int))/\(gB [(at' out2 (((at' p.ae i.toNat).a).toNat),false),(r_,true)]=true->(0:Int)<=(at' p.ae i.toNat).b/\(at' p.ae i.toNat).b<(out2.length:Int))) (
 bif (bif r_ then(bif (at' out2 (((at' p.ae i.toNat).a).toNat))then true else(at' out2 (((at' p.ae i.toNat).b).toNat)))else false)then
 bC ((0:Int)<=(at' p.ae i.toNat).a/\(at' p.ae i.toNat).a<(out2.length:Int)) (
 bC ((0:Int)<=(at' p.ae i.toNat).b/\(at' p.ae i.toNat).b<((out2.set (((at' p.ae i.toNat).a).toNat) true).length:Int)) (
 some (.next ((out2.set (((at' p.ae i.toNat).a).toNat) true).set (((at' p.ae i.toNat).b).toNat) true,IntKind.wrap .i64 (i+1)))))
 else
 some (.next (out2,IntKind.wrap .i64 (i+1)))))
 else
 some (.done (.brk out2))
def jY (p:ah) (s_:State) (b:Int):((List Bool) × Int)->Option (aV ((List Bool) × Int) (Ex (List Bool) (List Bool))):=
 fun zz=>match zz with
 |(out,n)=>
 bif (decide (n<p.ap))then
 Option.bind (ay (kg p s_ b) FUEL (out,0)) fun o=>match o with
 | .ret v=>some v
 | .brk out3=>
 some (.next (out3,IntKind.wrap .i64 (n+1)))
 else
 some (.done (.brk out))
def lM (p:ah) (s_:State) (b:Int):Option (List Bool):=
 bC (((0:Int)<=p.ap)/\((1:Int)*p.ap<=281474976710656)/\((p.ap:Int)<=9223372036854775807)) (
 bC ((0:Int)<=b/\b<((List.replicate p.ap.toNat (false:Bool)).length:Int)) (
 Option.bind (ay (jY p s_ b) FUEL ((List.replicate p.ap.toNat (false:Bool)).set b.toNat true,0)) fun o=>match o with
 | .ret v=>some v
 | .brk out1=>
 some out1))
def je (p:ah) (r_2:List Bool):((List Bool) × Int)->Option (aV ((List Bool) × Int) (Ex (List Bool) (aV ((List Bool) × Int) (Ex (List Bool) ((List Bool) × Int))))):=
 fun zz=>match zz with
 |(out2,b)=>
 bif (decide (b<p.ap))then
 bC (((0:Int)<=b/\b<(out2.length:Int))/\(gB [(at' out2 b.toNat,false)]=true->(0:Int)<=b/\b<(r_2.length:Int))) (
 some (.next (out2.set b.toNat (bif (at' out2 b.toNat)then true else(at' r_2 b.toNat)),IntKind.wrap .i64 (b+1))))
 else
 some (.done (.brk out2))
def jg (p:ah) (s_:State):((List Bool) × Int)->Option (aV ((List Bool) × Int) (Ex (List Bool) ((List Bool) × Int))):=
 fun zz=>match zz with
 |(out,kz)=>
 bif (decide (kz<(p.aa.length:Int)))then
 (lN p s_ kz).bind fun r_1=>
 bif (!r_1)then
 some (.next (out,IntKind.wrap .i64 (kz+1)))
 else
 (lM p s_ ((at' p.aa kz.toNat).bus)).bind fun r_2=>
 bC ((0:Int)<=kz/\kz<(p.aa.length:Int)) (
 Option.bind (ay (je p r_2) FUEL (out,0)) fun o=>match o with
 | .ret v=>some v
 | .brk out3=>
 some (.next (out3,IntKind.wrap .i64 (kz+1))))
 else
 some (.done (.brk out))
def kW (p:ah) (s_:State):Option ((List Bool) × Int):=
 (gG p s_).bind fun r_=>
 bif (!decide (r_=0))then
 some (([]:List Bool),r_)
 else
 bC (((0:Int)<=p.ap)/\((1:Int)*p.ap<=281474976710656)/\((p.ap:Int)<=9223372036854775807)) (
 Option.bind (ay (jg p s_) FUEL (List.replicate p.ap.toNat (false:Bool),0)) fun o=>match o with
 | .ret v=>some v
 | .brk out1=>
 some (out1,0))
def kC (p:ah) (r_:(List Bool) × Int):((List aQ) × Int)->Option (aV ((List aQ) × Int) (Ex (List aQ) ((List aQ) × Int))):=
 fun zz=>match zz with
 |(out,r_1)=>
 bif (decide (r_1<(p.a_.length:Int)))then
 bC ((0:Int)<=r_1/\r_1<(p.a_.length:Int)) (
 bC (((0:Int)<=((at' p.a_ r_1.toNat).ba).e0/\((at' p.a_ r_1.toNat).ba).e0<(r_.1.length:Int))/\(gB [(decide (0<=(((at' p.a_ r_1.toNat).ba).e1)),true)]=true->(0:Int)<=(if((at' p.a_ r_1.toNat).ba).e1<0 then 0 else((at' p.a_ r_1.toNat).ba).e1)/\(if((at' p.a_ r_1.toNat).ba).e1<0 then 0 else((at' p.a_ r_1.toNat).ba).e1)<(r_.1.length:Int))/\((out.length+[(⟨at' r_.1 ((((at' p.a_ r_1.toNat).ba).e0).toNat),(bif (decide (0<=(((at' p.a_ r_1.toNat).ba).e1)))then(at' r_.1 ((if((at' p.a_ r_1.toNat).ba).e1<0 then 0 else((at' p.a_ r_1.toNat).ba).e1).toNat))else false)⟩:aQ)].length)*2<=140737488355328)/\(out.length+[(⟨at' r_.1 ((((at' p.a_ r_1.toNat).ba).e0).toNat),(bif (decide (0<=(((at' p.a_ r_1.toNat).ba).e1)))then(at' r_.1 ((if((at' p.a_ r_1.toNat).ba).e1<0 then 0 else((at' p.a_ r_1.toNat).ba).e1).toNat))else false)⟩:aQ)].length<=4611686018427387904)) (
 some (.next (out++[(⟨at' r_.1 ((((at' p.a_ r_1.toNat).ba).e0).toNat),(bif (decide (0<=(((at' p.a_ r_1.toNat).ba).e1)))then(at' r_.1 ((if((at' p.a_ r_1.toNat).ba).e1<0 then 0 else((at' p.a_ r_1.toNat).ba).e1).toNat))else false)⟩:aQ)],IntKind.wrap .i64 (r_1+1)))))
 else
 some (.done (.brk out))
def vk (p:ah) (s_:State):Option ((List aQ) × Int):=
 (kW p s_).bind fun r_=>
 bif (!decide (r_.2=0))then
 some (([]:List aQ),r_.2)
 else
 Option.bind (ay (kC p r_) FUEL (([]:List aQ),0)) fun o=>match o with
 | .ret v=>some v
 | .brk out1=>
 some (out1,0)
def rC (p:ah) (s_:State) (rack:Int):Option Bool:=
 (vk p s_).bind fun r_=>
 bC (((0:Int)<=rack/\rack<(r_.1.length:Int))/\(gB [((at' r_.1 rack.toNat).e0,false)]=true->(0:Int)<=rack/\rack<(r_.1.length:Int))) (
 some (bif (at' r_.1 rack.toNat).e0 then true else(at' r_.1 rack.toNat).e1))
def iJ (p:ah):((List Part) × Int)->Option (aV ((List Part) × Int) (Ex (List Part) ((List Part) × Int))):=
 fun zz=>match zz with
 |(out,i)=>
 bif (decide (i<p.ap))then
 bC (((out.length+[(⟨1,i⟩:Part)].length)*16<=140737488355328)/\(out.length+[(⟨1,i⟩:Part)].length<=4611686018427387904)) (
 some (.next (out++[(⟨1,i⟩:Part)],IntKind.wrap .i64 (i+1))))
 else
 some (.done (.brk out))
def kH (p:ah):((List Part) × Int)->Option (aV ((List Part) × Int) (Ex (List Part) ((List Part) × Int))):=
 fun zz=>match zz with
 |(out2,i1)=>
 bif (decide (i1<(p.aa.length:Int)))then
 bC (((out2.length+[(⟨2,i1⟩:Part)].length)*16<=140737488355328)/\(out2.length+[(⟨2,i1⟩:Part)].length<=4611686018427387904)) (
 some (.next (out2++[(⟨2,i1⟩:Part)],IntKind.wrap .i64 (i1+1))))
 else
 some (.done (.brk out2))
def kF (p:ah):((List Part) × Int)->Option (aV ((List Part) × Int) (Ex (List Part) ((List Part) × Int))):=
 fun zz=>match zz with
 |(out4,i2)=>
 bif (decide (i2<(p.ae.length:Int)))then
 bC (((out4.length+[(⟨3,i2⟩:Part)].length)*16<=140737488355328)/\(out4.length+[(⟨3,i2⟩:Part)].length<=4611686018427387904)) (
 some (.next (out4++[(⟨3,i2⟩:Part)],IntKind.wrap .i64 (i2+1))))
 else
 some (.done (.brk out4))
def og (p:ah):Option ((List Part) × Int):=
 (lI p).bind fun r_=>
 bif (!decide (r_=0))then
 some (([]:List Part),r_)
 else
 Option.bind (ay (iJ p) FUEL (([]:List Part),0)) fun o=>match o with
 | .ret v=>some v
 | .brk out1=>
 Option.bind (ay (kH p) FUEL (out1,0)) fun o=>match o with
 | .ret v=>some v
 | .brk out3=>
 Option.bind (ay (kF p) FUEL (out3,0)) fun o=>match o with
 | .ret v=>some v
 | .brk out5=>
 some (out5,0)
def nI (s_:State) (r_:(List Part) × Int):((List Part) × Int)->Option (aV ((List Part) × Int) (Ex (List Part) (List Part))):=
 fun zz=>match zz with
 |(out,i)=>
 bif (decide (i<(r_.1.length:Int)))then
 bC ((0:Int)<=i/\i<(r_.1.length:Int)) (
 bC ((gB [(decide (((at' r_.1 i.toNat).kind)=1),true)]=true->(0:Int)<=(at' r_.1 i.toNat).index/\(at' r_.1 i.toNat).index<(s_.al.length:Int))/\(gB [(decide (((at' r_.1 i.toNat).kind)=2),true),((bif (decide (((at' r_.1 i.toNat).kind)=1))then(!(at' s_.al (((at' r_.1 i.toNat).index).toNat)))else false),false)]=true->(0:Int)<=(at' r_.1 i.toNat).index/\(at' r_.1 i.toNat).index<(s_.ag.length:Int))/\(gB [(decide (((at' r_.1 i.toNat).kind)=3),true),((bif (bif (decide (((at' r_.1 i.toNat).kind)=1))then(!(at' s_.al (((at' r_.1 i.toNat).index).toNat)))else false)then true else(bif (decide (((at' r_.1 i.toNat).kind)=2))then(!(at' s_.ag (((at' r_.1 i.toNat).index).toNat)))else false)),false)]=true->(0:Int)<=(at' r_.1 i.toNat).index/\(at' r_.1 i.toNat).index<(s_.am.length:Int))) (
 bif (bif (bif (bif (decide (((at' r_.1 i.toNat).kind)=1))then(!(at' s_.al (((at' r_.1 i.toNat).index).toNat)))else false)then true else(bif (decide (((at' r_.1 i.toNat).kind)=2))then(!(at' s_.ag (((at' r_.1 i.toNat).index).toNat)))else false))then true else(bif (decide (((at' r_.1 i.toNat).kind)=3))then(!(at' s_.am (((at' r_.1 i.toNat).index).toNat)))else false))then
 bC (((out.length+[at' r_.1 i.toNat].length)*16<=140737488355328)/\(out.length+[at' r_.1 i.toNat].length<=4611686018427387904)) (
 some (.next (out++[at' r_.1 i.toNat],IntKind.wrap .i64 (i+1))))
 else
 some (.next (out,IntKind.wrap .i64 (i+1)))))
 else
 some (.done (.brk out))
def qU (p:ah) (s_:State):Option (List Part):=
 (og p).bind fun r_=>
 Option.bind (ay (nI s_ r_) FUEL (([]:List Part),0)) fun o=>match o with
 | .ret v=>some v
 | .brk out1=>
 some out1
def fP (p:ah) (s_:State) (rack:Int) (r_1:List Part):((List Part) × Int)->Option (aV ((List Part) × Int) (Ex (List Part) ((List Part) × Int))):=
 fun zz=>match zz with
 |(out,i)=>
 (bif gB [(decide (i<(r_1.length:Int)),true)]then rC p s_ rack else some default).bind fun r_2=>
 bif (bif (decide (i<(r_1.length:Int)))then r_2 else false)then
 (pU p s_ (at' r_1 i.toNat) true).bind fun r_3=>
 bC ((0:Int)<=i/\i<(r_1.length:Int)) (
 (rC p r_3.1 rack).bind fun r_4=>
 bif (!r_4)then
 bC (((0:Int)<=i/\i<(r_1.length:Int))/\((out.length+[at' r_1 i.toNat].length)*16<=140737488355328)/\(out.length+[at' r_1 i.toNat].length<=4611686018427387904)) (
 some (.next (out++[at' r_1 i.toNat],IntKind.wrap .i64 (i+1))))
 else
 some (.next (out,IntKind.wrap .i64 (i+1))))
 else
 some (.done (.brk out))
def iK (p:ah) (s_:State) (rack:Int):Option ((List Part) × Int):=
 (eG p s_ rack).bind fun r_=>
 bif (!decide (r_=0))then
 some (([]:List Part),r_)
 else
 (qU p s_).bind fun r_1=>
 Option.bind (ay (fP p s_ rack r_1) FUEL (([]:List Part),0)) fun o=>match o with
 | .ret v=>some v
 | .brk out1=>
 some (out1,0)
def nu (n:Int):Option (List Part):=
 bif (decide (n<0))then
 none
 else
 bif (decide (0<(IntKind.wrap .i64 (n - (IntKind.wrap .i64 ((0:Int) - (([]:List Part).length:Int)))))))then
 bC (((0:Int)<=(0:Int)/\(0:Int)<=(([]:List Part).length:Int))/\((0:Int)<(IntKind.wrap .i64 (n - (IntKind.wrap .i64 ((0:Int) - (([]:List Part).length:Int))))))/\((16:Int)*(IntKind.wrap .i64 (n - (IntKind.wrap .i64 ((0:Int) - (([]:List Part).length:Int)))))<=140737488355328)/\(((IntKind.wrap .i64 (n - (IntKind.wrap .i64 ((0:Int) - (([]:List Part).length:Int))))):Int)<=4611686018427387904)/\((0:Int)<=(([]:List Part).length:Int)/\(([]:List Part).length:Int)<=((List.replicate ((IntKind.wrap .i64 (n - (IntKind.wrap .i64 ((0:Int) - (([]:List Part).length:Int))))).toNat) ((⟨0,0⟩:Part):Part)).length:Int))) (
 some ((List.replicate ((IntKind.wrap .i64 (n - (IntKind.wrap .i64 ((0:Int) - (([]:List Part).length:Int))))).toNat) ((⟨0,0⟩:Part):Part)).take ((([]:List Part).length:Int).toNat)))
 else
 some ([]:List Part)
def iM (slices:List (List Part)):(Int × Int)->Option (aV (Int × Int) (Ex Int (List Part))):=
 fun zz=>match zz with
 |(size_,t11)=>
 bif (decide (t11<(slices.length:Int)))then
 bC ((0:Int)<=t11/\t11<(slices.length:Int)) (
 bif (decide ((IntKind.wrap .i64 (size_+((at' slices t11.toNat).length:Int)))<0))then
 none
 else
 some (.next (IntKind.wrap .i64 (size_+((at' slices t11.toNat).length:Int)),IntKind.wrap .i64 (t11+1))))
 else
 some (.done (.brk size_))
def iR (slices:List (List Part)):((List Part) × Int)->Option (aV ((List Part) × Int) (Ex (List Part) (List Part))):=
 fun zz=>match zz with
 |(newslice,t27)=>
 bif (decide (t27<(slices.length:Int)))then
 bC ((0:Int)<=t27/\t27<(slices.length:Int)) (
 bC (((newslice.length+(at' slices t27.toNat).length)*16<=140737488355328)/\(newslice.length+(at' slices t27.toNat).length<=4611686018427387904)) (
 some (.next (newslice++(at' slices t27.toNat),IntKind.wrap .i64 (t27+1)))))
 else
 some (.done (.brk newslice))
def oC (slices:List (List Part)):Option (List Part):=
 Option.bind (ay (iM slices) FUEL (0,0)) fun o=>match o with
 | .ret v=>some v
 | .brk size_1=>
 (nu size_1).bind fun r_=>
 Option.bind (ay (iR slices) FUEL (r_,0)) fun o=>match o with
 | .ret v=>some v
 | .brk newslice1=>
 some newslice1
def jU (s_:List Part) (v_:Part):Option Bool:=
 (cO s_ v_).bind fun r_=>
 some (decide (0<=r_))
def bV (p:ah) (s_:State) (l:List Part):(Int × (List Int) × Int)->Option (aV (Int × (List Int) × Int) (Ex Int Bool)):=
 fun zz=>match zz with
 |(at_,met,i)=>
 bif (decide (i<(l.length:Int)))then
 bC ((0:Int)<=i/\i<(l.length:Int)) (
 bif (bif (bif (!decide (((at' l i.toNat).kind)=3))then true else(decide (((at' l i.toNat).index)<0)))then true else(decide ((p.ae.length:Int)<=((at' l i.toNat).index))))then
 some (.done (.ret false))
 else
 bC ((0:Int)<=(at' l i.toNat).index/\(at' l i.toNat).index<(p.ae.length:Int)) (
 bC (((0:Int)<=(at' l i.toNat).index/\(at' l i.toNat).index<(s_.aq.length:Int))/\(gB [(!(at' s_.aq (((at' l i.toNat).index).toNat)),false)]=true->(0:Int)<=(at' l i.toNat).index/\(at' l i.toNat).index<(s_.am.length:Int))/\(gB [((bif (!(at' s_.aq (((at' l i.toNat).index).toNat)))then true else(at' s_.am (((at' l i.toNat).index).toNat))),false)]=true->(0:Int)<=(at' p.ae (((at' l i.toNat).index).toNat)).a/\(at' p.ae (((at' l i.toNat).index).toNat)).a<(s_.al.length:Int))/\(gB [((bif (bif (!(at' s_.aq (((at' l i.toNat).index).toNat)))then true else(at' s_.am (((at' l i.toNat).index).toNat)))then true else(at' s_.al (((at' p.ae (((at' l i.toNat).index).toNat)).a).toNat))),false)]=true->(0:Int)<=(at' p.ae (((at' l i.toNat).index).toNat)).b/\(at' p.ae (((at' l i.toNat).index).toNat)).b<(s_.al.length:Int))) (
 bif (bif (bif (bif (bif (!(at' s_.aq (((at' l i.toNat).index).toNat)))then true else(at' s_.am (((at' l i.toNat).index).toNat)))then true else(at' s_.al (((at' p.ae (((at' l i.toNat).index).toNat)).a).toNat)))then true else(at' s_.al (((at' p.ae (((at' l i.toNat).index).toNat)).b).toNat)))then true else(bif (!decide (((at' p.ae (((at' l i.toNat).index).toNat)).a)=at_))then(!decide (((at' p.ae (((at' l i.toNat).index).toNat)).b)=at_))else false))then
 some (.done (.ret false))
 else
 (bif gB [(!((decide (((at' l ((IntKind.wrap .i64 (i+1)).toNat)).kind)=1)) && ((decide (((at' l ((IntKind.wrap .i64 (i+1)).toNat)).index)=(IntKind.wrap .i64 ((IntKind.wrap .i64 (((at' p.ae (((at' l i.toNat).index).toNat)).a)+((at' p.ae (((at' l i.toNat).index).toNat)).b))) - at_)))) && true)),false)]then di met (IntKind.wrap .i64 ((IntKind.wrap .i64 (((at' p.ae (((at' l i.toNat).index).toNat)).a)+((at' p.ae (((at' l i.toNat).index).toNat)).b))) - at_))else some default).bind fun r_=>
 bC ((0:Int)<=(IntKind.wrap .i64 (i+1))/\(IntKind.wrap .i64 (i+1))<(l.length:Int)) (
 bif (bif (!((decide (((at' l ((IntKind.wrap .i64 (i+1)).toNat)).kind)=1)) && ((decide (((at' l ((IntKind.wrap .i64 (i+1)).toNat)).index)=(IntKind.wrap .i64 ((IntKind.wrap .i64 (((at' p.ae (((at' l i.toNat).index).toNat)).a)+((at' p.ae (((at' l i.toNat).index).toNat)).b))) - at_)))) && true)))then true else r_)then
 some (.done (.ret false))
 else
 bC (((met.length+[IntKind.wrap .i64 ((IntKind.wrap .i64 (((at' p.ae (((at' l i.toNat).index).toNat)).a)+((at' p.ae (((at' l i.toNat).index).toNat)).b))) - at_)].length)*8<=140737488355328)/\(met.length+[IntKind.wrap .i64 ((IntKind.wrap .i64 (((at' p.ae (((at' l i.toNat).index).toNat)).a)+((at' p.ae (((at' l i.toNat).index).toNat)).b))) - at_)].length<=4611686018427387904)) (
 some (.next (IntKind.wrap .i64 ((IntKind.wrap .i64 (((at' p.ae (((at' l i.toNat).index).toNat)).a)+((at' p.ae (((at' l i.toNat).index).toNat)).b))) - at_),met++[IntKind.wrap .i64 ((IntKind.wrap .i64 (((at' p.ae (((at' l i.toNat).index).toNat)).a)+((at' p.ae (((at' l i.toNat).index).toNat)).b))) - at_)],IntKind.wrap .i64 (i+2))))))))
 else
 some (.done (.brk at_))
def fE (p:ah) (s_:State) (rack:Int) (l:List Part):Option Bool:=
 bC ((gB [(decide ((l.length:Int)<2),false)]=true->2≠(0:Int))/\(gB [((bif (decide ((l.length:Int)<2))then true else(!decide ((Int.tmod (l.length:Int) 2)=0))),false)]=true->(0:Int)<=0/\0<(l.length:Int))/\(gB [((bif (bif (decide ((l.length:Int)<2))then true else(!decide ((Int.tmod (l.length:Int) 2)=0)))then true else(!decide (((at' l 0).kind)=2))),false)]=true->(0:Int)<=0/\0<(l.length:Int))/\(gB [((bif (bif (bif (decide ((l.length:Int)<2))then true else(!decide ((Int.tmod (l.length:Int) 2)=0)))then true else(!decide (((at' l 0).kind)=2)))then true else(decide (((at' l 0).index)<0))),false)]=true->(0:Int)<=0/\0<(l.length:Int))) (
 bif (bif (bif (bif (bif (decide ((l.length:Int)<2))then true else(!decide ((Int.tmod (l.length:Int) 2)=0)))then true else(!decide (((at' l 0).kind)=2)))then true else(decide (((at' l 0).index)<0)))then true else(decide ((p.aa.length:Int)<=((at' l 0).index))))then
 some false
 else
 bC ((0:Int)<=0/\0<(l.length:Int)) (
 bC ((0:Int)<=(at' l 0).index/\(at' l 0).index<(p.aa.length:Int)) (
 bC (((0:Int)<=(at' l 0).index/\(at' l 0).index<(s_.on_.length:Int))/\(gB [(!(at' s_.on_ (((at' l 0).index).toNat)),false)]=true->(0:Int)<=(at' l 0).index/\(at' l 0).index<(s_.ag.length:Int))/\(gB [((bif (!(at' s_.on_ (((at' l 0).index).toNat)))then true else(at' s_.ag (((at' l 0).index).toNat))),false)]=true->(0:Int)<=(at' p.aa (((at' l 0).index).toNat)).bus/\(at' p.aa (((at' l 0).index).toNat)).bus<(s_.al.length:Int))/\(gB [((bif (bif (!(at' s_.on_ (((at' l 0).index).toNat)))then true else(at' s_.ag (((at' l 0).index).toNat)))then true else(at' s_.al (((at' p.aa (((at' l 0).index).toNat)).bus).toNat))),false)]=true->(0:Int)<=1/\1<(l.length:Int))) (
 bif (bif (bif (bif (!(at' s_.on_ (((at' l 0).index).toNat)))then true else(at' s_.ag (((at' l 0).index).toNat)))then true else(at' s_.al (((at' p.aa (((at' l 0).index).toNat)).bus).toNat)))then true else(!((decide (((at' l 1).kind)=1)) && ((decide (((at' l 1).index)=((at' p.aa (((at' l 0).index).toNat)).bus))) && true))))then
 some false
 else
 Option.bind (ay (bV p s_ l) FUEL ((at' p.aa (((at' l 0).index).toNat)).bus,[(at' p.aa (((at' l 0).index).toNat)).bus],2)) fun o=>match o with
 | .ret v=>some v
 | .brk at_1=>
 (di [((at' p.a_ rack.toNat).ba).e0,((at' p.a_ rack.toNat).ba).e1] at_1).bind fun r_1=>
 bC ((0:Int)<=rack/\rack<(p.a_.length:Int)) (
 some r_1)))))
def jV (x:List Part) (x1:Int) (x11:List Source) (x12:List Link) (x13:List aL) (x2:List Bool) (x21:List Bool) (x22:List Bool) (x23:List Bool) (x24:List Bool) (x25:List Bool) (x26:List Bool) (x3:Int):Option Bool:=
 (fE (⟨x1,x11,x12,x13⟩:ah) (⟨x2,x21,x22,x23,x24,x25,x26⟩:State) x3 x).bind fun r_=>
 some (!r_)
def eX (s_:List (List Part)) (f_:Int) (f_1:List Source) (f_2:List Link) (f_3:List aL) (f_4:List Bool) (f_5:List Bool) (f_6:List Bool) (f_7:List Bool) (f_8:List Bool) (f_9:List Bool) (f_10:List Bool) (f_11:Int):Int->Option (aV Int (Ex Unit Int)):=
 fun t8=>
 bif (decide (t8<(s_.length:Int)))then
 (jV (at' s_ t8.toNat) f_ f_1 f_2 f_3 f_4 f_5 f_6 f_7 f_8 f_9 f_10 f_11).bind fun r_=>
 bC ((0:Int)<=t8/\t8<(s_.length:Int)) (
 bif r_ then
 some (.done (.ret t8))
 else
 some (.next (IntKind.wrap .i64 (t8+1))))
 else
 some (.done (.brk ()))
def iX (s_:List (List Part)) (f_:Int) (f_1:List Source) (f_2:List Link) (f_3:List aL) (f_4:List Bool) (f_5:List Bool) (f_6:List Bool) (f_7:List Bool) (f_8:List Bool) (f_9:List Bool) (f_10:List Bool) (f_11:Int):Option Int:=
 Option.bind (ay (eX s_ f_ f_1 f_2 f_3 f_4 f_5 f_6 f_7 f_8 f_9 f_10 f_11) FUEL (0)) fun o=>match o with
 | .ret v=>some v
 | .brk _=>
 some (-1)
def dR (s_:List (List Part)) (f_:Int) (f_1:List Source) (f_2:List Link) (f_3:List aL) (f_4:List Bool) (f_5:List Bool) (f_6:List Bool) (f_7:List Bool) (f_8:List Bool) (f_9:List Bool) (f_10:List Bool) (f_11:Int):Option Bool:=
 (iX s_ f_ f_1 f_2 f_3 f_4 f_5 f_6 f_7 f_8 f_9 f_10 f_11).bind fun r_=>
 some (decide (0<=r_))
def dh (r_2:List Part):Int->Option (aV Int (Ex Unit Int)):=
 fun t27=>
 bif (decide (t27<(r_2.length:Int)))then
 bC ((0:Int)<=t27/\t27<(r_2.length:Int)) (
 (jU (nW r_2 0 t27.toNat) (at' r_2 t27.toNat)).bind fun r_3=>
 bC ((0:Int)<=t27/\t27<=(r_2.length:Int)) (
 bif r_3 then
 some (.done (.ret 7))
 else
 some (.next (IntKind.wrap .i64 (t27+1)))))
 else
 some (.done (.brk ()))
def eO (p:ah) (s_:State) (rack:Int) (l:List (List Part)):Option Int:=
 (eH p s_ rack).bind fun r_=>
 bif (!decide (r_=0))then
 some r_
 else
 (dR l p.ap p.aa p.ae p.a_ s_.aq s_.aw s_.am s_.on_ s_.ag s_.ar s_.al rack).bind fun r_1=>
 bif r_1 then
 some 7
 else
 (oC l).bind fun r_2=>
 Option.bind (ay (dh r_2) FUEL (0)) fun o=>match o with
 | .ret v=>some v
 | .brk _=>
 some 0
def kX (l:List (List Part)):((List (List Part)) × Int)->Option (aV ((List (List Part)) × Int) (Ex (List (List Part)) (List (List Part)))):=
 fun zz=>match zz with
 |(out,i)=>
 bif (decide (i<(l.length:Int)))then
 (ic (at' l i.toNat)).bind fun r_=>
 bC (((0:Int)<=i/\i<(l.length:Int))/\((out.length+[r_].length)*24<=140737488355328)/\(out.length+[r_].length<=4611686018427387904)) (
 some (.next (out++[r_],IntKind.wrap .i64 (i+1))))
 else
 some (.done (.brk out))
def sH (l:List (List Part)):Option (List (List Part)):=
 Option.bind (ay (kX l) FUEL (([]:List (List Part)),0)) fun o=>match o with
 | .ret v=>some v
 | .brk out1=>
 some out1
def jE (a:List Source) (b:List Source):Int->Option (aV Int (Ex Unit Bool)):=
 fun i=>
 bif (decide (i<(a.length:Int)))then
 bC (((0:Int)<=i/\i<(a.length:Int))/\((0:Int)<=i/\i<(b.length:Int))) (
 bif (!((decide (((at' a i.toNat).bus)=((at' b i.toNat).bus))) && ((decide (((at' a i.toNat).kind)=((at' b i.toNat).kind))) && ((decide (((at' a i.toNat).power)=((at' b i.toNat).power))) && ((decide (((at' a i.toNat).bp)=((at' b i.toNat).bp))) && ((decide (((at' a i.toNat).ohm)=((at' b i.toNat).ohm))) && true))))))then
 some (.done (.ret false))
 else
 some (.next (IntKind.wrap .i64 (i+1))))
 else
 some (.done (.brk ()))
def mh (a:List Source) (b:List Source):Option Bool:=
 bif (!decide ((a.length:Int)=(b.length:Int)))then
 some false
 else
 Option.bind (ay (jE a b) FUEL (0)) fun o=>match o with
 | .ret v=>some v
 | .brk _=>
 some true
def kM (a:List kJ) (b:List kJ):Int->Option (aV Int (Ex Unit Bool)):=
 fun i=>
 bif (decide (i<(a.length:Int)))then
 bC (((0:Int)<=i/\i<(a.length:Int))/\((0:Int)<=i/\i<(b.length:Int))) (
 bif (!((decide (((at' a i.toNat).br)=((at' b i.toNat).br))) && ((decide (((at' a i.toNat).bj)=((at' b i.toNat).bj))) && true)))then
 some (.done (.ret false))
 else
 some (.next (IntKind.wrap .i64 (i+1))))
 else
 some (.done (.brk ()))
def oJ (a:List kJ) (b:List kJ):Option Bool:=
 bif (!decide ((a.length:Int)=(b.length:Int)))then
 some false
 else
 Option.bind (ay (kM a b) FUEL (0)) fun o=>match o with
 | .ret v=>some v
 | .brk _=>
 some true
def pY (a:Link) (b:Link):Option Bool:=
 (bif gB [((bif (bif (bif (bif (decide (a.a=b.a))then(decide (a.b=b.b))else false)then(decide (a.kind=b.kind))else false)then(decide (a.most=b.most))else false)then(decide (a.ohm=b.ohm))else false),true)]then oJ a.trip b.trip else some default).bind fun r_=>
 some (bif (bif (bif (bif (bif (decide (a.a=b.a))then(decide (a.b=b.b))else false)then(decide (a.kind=b.kind))else false)then(decide (a.most=b.most))else false)then(decide (a.ohm=b.ohm))else false)then r_ else false)
def kQ (a:List Link) (b:List Link):Int->Option (aV Int (Ex Unit Bool)):=
 fun i=>
 bif (decide (i<(a.length:Int)))then
 (pY (at' a i.toNat) (at' b i.toNat)).bind fun r_=>
 bC (((0:Int)<=i/\i<(a.length:Int))/\((0:Int)<=i/\i<(b.length:Int))) (
 bif (!r_)then
 some (.done (.ret false))
 else
 some (.next (IntKind.wrap .i64 (i+1))))
 else
 some (.done (.brk ()))
def oF (a:List Link) (b:List Link):Option Bool:=
 bif (!decide ((a.length:Int)=(b.length:Int)))then
 some false
 else
 Option.bind (ay (kQ a b) FUEL (0)) fun o=>match o with
 | .ret v=>some v
 | .brk _=>
 some true
def kL (a:List aL) (b:List aL):Int->Option (aV Int (Ex Unit Bool)):=
 fun i=>
 bif (decide (i<(a.length:Int)))then
 bC (((0:Int)<=i/\i<(a.length:Int))/\((0:Int)<=i/\i<(b.length:Int))) (
 bif (!((decide ((((at' a i.toNat).ba).e0)=(((at' b i.toNat).ba).e0))) && ((decide ((((at' a i.toNat).ba).e1)=(((at' b i.toNat).ba).e1))) && ((decide (((at' a i.toNat).power)=((at' b i.toNat).power))) && ((decide (((at' a i.toNat).bm)=((at' b i.toNat).bm))) && true)))))then
 some (.done (.ret false))
 else
 some (.next (IntKind.wrap .i64 (i+1))))
 else
 some (.done (.brk ()))
def ou (a:List aL) (b:List aL):Option Bool:=
 bif (!decide ((a.length:Int)=(b.length:Int)))then
 some false
 else
 Option.bind (ay (kL a b) FUEL (0)) fun o=>match o with
 | .ret v=>some v
 | .brk _=>
 some true
def oz (a:ah) (b:ah):Option Bool:=
 (bif gB [(decide (a.ap=b.ap),true)]then mh a.aa b.aa else some default).bind fun r_=>
 (bif gB [((bif (decide (a.ap=b.ap))then r_ else false),true)]then oF a.ae b.ae else some default).bind fun r_1=>
 (bif gB [((bif (bif (decide (a.ap=b.ap))then r_ else false)then r_1 else false),true)]then ou a.a_ b.a_ else some default).bind fun r_2=>
 some (bif (bif (bif (decide (a.ap=b.ap))then r_ else false)then r_1 else false)then r_2 else false)
def iF (l:List (List Part)):Int->Option (aV Int (Ex Unit Bool)):=
 fun i=>
 bif (decide (i<(l.length:Int)))then
 bC ((0:Int)<=i/\i<(l.length:Int)) (
 bif (decide (30<((at' l i.toNat).length:Int)))then
 (nV).bind fun r_2=>
 some (.done (.ret r_2))
 else
 some (.next (IntKind.wrap .i64 (i+1))))
 else
 some (.done (.brk ()))
def dw (p:ah) (s_:State) (rack:Int) (l:List (List Part)) (r_3:ah) (r_4:State) (r_5:Int):Int->Option (aV Int (Ex Unit Bool)):=
 fun t55=>
 bif (decide (t55<([rack,r_5].length:Int)))then
 bC ((0:Int)<=t55/\t55<([rack,r_5].length:Int)) (
 (dZ r_3 r_4 (at' [rack,r_5] t55.toNat)).bind fun r_6=>
 (iL p s_ (at' [rack,r_5] t55.toNat)).bind fun r_7=>
 (jv r_3 r_4 (at' [rack,r_5] t55.toNat)).bind fun r_8=>
 (bif gB [(decide (r_7.2=0),true),((bif (bif (bif (!decide (r_6.1=r_7.1))then true else(!decide (r_6.2=r_7.2)))then true else(!decide (r_8.2=r_7.2)))then true else(!decide ((r_8.1.length:Int)=r_7.1))),false)]then fJ p s_ (at' [rack,r_5] t55.toNat) r_8.1 else some default).bind fun r_9=>
 bif (bif (bif (bif (bif (!decide (r_6.1=r_7.1))then true else(!decide (r_6.2=r_7.2)))then true else(!decide (r_8.2=r_7.2)))then true else(!decide ((r_8.1.length:Int)=r_7.1)))then true else(bif (decide (r_7.2=0))then(!decide (r_9=0))else false))then
 some (.done (.ret false))
 else
 (dJ r_3 r_4 (at' [rack,r_5] t55.toNat)).bind fun r_10=>
 (iK p s_ (at' [rack,r_5] t55.toNat)).bind fun r_11=>
 (bif gB [(!decide (r_10.2=r_11.2),false)]then kZ r_10.1 r_11.1 else some default).bind fun r_12=>
 (bif gB [((bif (!decide (r_10.2=r_11.2))then true else(!r_12)),false)]then sH l else some default).bind fun r_13=>
 (bif gB [((bif (!decide (r_10.2=r_11.2))then true else(!r_12)),false)]then eO r_3 r_4 (at' [rack,r_5] t55.toNat) r_13 else some default).bind fun r_14=>
 (bif gB [((bif (!decide (r_10.2=r_11.2))then true else(!r_12)),false)]then fJ p s_ (at' [rack,r_5] t55.toNat) l else some default).bind fun r_15=>
 bif (bif (bif (!decide (r_10.2=r_11.2))then true else(!r_12))then true else(!decide (r_14=r_15)))then
 some (.done (.ret false))
 else
 some (.next (IntKind.wrap .i64 (t55+1))))
 else
 some (.done (.brk ()))
def jP (p:ah) (s_:State) (rack:Int) (l:List (List Part)):Option Bool:=
 (o7 p).bind fun r_=>
 bif (bif r_ then true else(decide (4<(l.length:Int))))then
 (nV).bind fun r_1=>
 some r_1
 else
 Option.bind (ay (iF l) FUEL (0)) fun o=>match o with
 | .ret v=>some v
 | .brk _=>
 (oG p).bind fun r_3=>
 (ow s_).bind fun r_4=>
 (xA rack (p.a_.length:Int)).bind fun r_5=>
 Option.bind (ay (dw p s_ rack l r_3 r_4 r_5) FUEL (0)) fun o=>match o with
 | .ret v=>some v
 | .brk _=>
 (oz p r_3).bind fun r_16=>
 (bif gB [(r_16,true)]then oH s_ r_4 else some default).bind fun r_17=>
 (bif gB [((bif r_16 then r_17 else false),true)]then nV else some default).bind fun r_18=>
 some (bif (bif r_16 then r_17 else false)then r_18 else false)
end Sg
