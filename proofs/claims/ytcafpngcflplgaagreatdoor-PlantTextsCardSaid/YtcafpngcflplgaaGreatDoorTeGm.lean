import Derived.Test.YtcafpngcflplgaaGreatDoorTeLf
import Derived.Test.YtcafpngcflplgaaGreatDoorTeLg
set_option linter.all false
namespace Sg
open Go
structure Source where
 bus:Int
 kind:Int
 power:Int
 br:Int
 ohm:Int
instance:Inhabited Source:=⟨⟨default,default,default,default,default⟩⟩
def Source.cell (x:Source):Nat->DV
 |0=>(.int .i64 x.bus)
 |1=>(.int .i64 x.kind)
 |2=>(.int .i64 x.power)
 |3=>(.int .i64 x.br)
 |4=>(.int .i64 x.ohm)
 |_=> .nilp
structure aQ where
 bp:Int
 bi:Int
instance:Inhabited aQ:=⟨⟨default,default⟩⟩
def aQ.cell (x:aQ):Nat->DV
 |0=>(.int .i64 x.bp)
 |1=>(.int .i64 x.bi)
 |_=> .nilp
structure Link where
 a:Int
 b:Int
 kind:Int
 most:Int
 ohm:Int
 trip:(List aQ)
instance:Inhabited Link:=⟨⟨default,default,default,default,default,default⟩⟩
def Link.cell (x:Link):Nat->DV
 |0=>(.int .i64 x.a)
 |1=>(.int .i64 x.b)
 |2=>(.int .i64 x.kind)
 |3=>(.int .i64 x.most)
 |4=>(.int .i64 x.ohm)
 |5=>(bQ none 2 aQ.cell x.trip)
 |_=> .nilp
structure aC where
 e0:Int
 e1:Int
instance:Inhabited aC:=⟨⟨default,default⟩⟩
def aC.cell (x:aC):Nat->DV
 |0=>(.int .i64 x.e0)
 |1=>(.int .i64 x.e1)
 |_=> .nilp
structure aF where
 bh:aC
 power:Int
 bk:Int
instance:Inhabited aF:=⟨⟨default,default,default⟩⟩
def aF.cell (x:aF):Nat->DV
 |0=>(.int .i64 x.bh.e0)
 |1=>(.int .i64 x.bh.e1)
 |2=>(.int .i64 x.power)
 |3=>(.int .i64 x.bk)
 |_=> .nilp
structure ah where
 ae:Int
 aa:(List Source)
 ac:(List Link)
 am:(List aF)
instance:Inhabited ah:=⟨⟨default,default,default,default⟩⟩
def ah.cell (x:ah):Nat->DV
 |0=>(.int .i64 x.ae)
 |1=>(bQ none 5 Source.cell x.aa)
 |2=>(bQ none 6 Link.cell x.ac)
 |3=>(bQ none 4 aF.cell x.am)
 |_=> .nilp
structure State where
 a_:(List Bool)
 ba:(List Bool)
 aq:(List Bool)
 on_:(List Bool)
 ag:(List Bool)
 aw:(List Bool)
 ap:(List Bool)
instance:Inhabited State:=⟨⟨default,default,default,default,default,default,default⟩⟩
def State.cell (x:State):Nat->DV
 |0=>(bQ none 1 af x.a_)
 |1=>(bQ none 1 af x.ba)
 |2=>(bQ none 1 af x.aq)
 |3=>(bQ none 1 af x.on_)
 |4=>(bQ none 1 af x.ag)
 |5=>(bQ none 1 af x.aw)
 |6=>(bQ none 1 af x.ap)
 |_=> .nilp
structure dw where
 l:(List Bool)
 n:Int
instance:Inhabited dw:=⟨⟨default,default⟩⟩
def dw.cell (x:dw):Nat->DV
 |0=>(bQ none 1 af x.l)
 |1=>(.int .i64 x.n)
 |_=> .nilp
structure aL where
 bj:(List (Int × Int))
instance:Inhabited aL:=⟨⟨default⟩⟩
def aL.cell (x:aL):Nat->DV
 |0=> .nilp
 |_=> .nilp
structure aj where
 ae:(List Int)
 aa:(List Int)
instance:Inhabited aj:=⟨⟨default,default⟩⟩
def aj.cell (x:aj):Nat->DV
 |0=>(bQ none 1 (aS .i64) x.ae)
 |1=>(bQ none 1 (aS .i64) x.aa)
 |_=> .nilp
structure aX where
 e0:Bool
 e1:Bool
instance:Inhabited aX:=⟨⟨default,default⟩⟩
def aX.cell (x:aX):Nat->DV
 |0=>(.bool x.e0)
 |1=>(.bool x.e1)
 |_=> .nilp
structure Part where
 kind:Int
 index:Int
instance:Inhabited Part:=⟨⟨default,default⟩⟩
def Part.cell (x:Part):Nat->DV
 |0=>(.int .i64 x.kind)
 |1=>(.int .i64 x.index)
 |_=> .nilp
def aj.ev (x:aj):Nat->EV
 |0=> .row 3 1 x.ae.length (ay (aS .i64) x.ae)
 |1=> .row 3 1 x.aa.length (ay (aS .i64) x.aa)
 |_=> .d .nilp
def mH (x:Link):Int->Option (bK Int (Ex Unit Bool)):=
 fun i=>
 bif (decide (i<(x.trip.length:Int)))then
 bA ((0:Int)<=i/\i<(x.trip.length:Int)) (
 bif (bif (bif (bif (decide (((at' x.trip i.toNat).bp)<1))then true else(decide (1000000<((at' x.trip i.toNat).bp))))then true else(decide (((at' x.trip i.toNat).bi)<1)))then true else(decide (100000<((at' x.trip i.toNat).bi))))then
 some (.done (.ret false))
 else
 bA ((gB [(decide (0<i),true)]=true->(0:Int)<=(IntKind.wrap .i64 (i - 1))/\(IntKind.wrap .i64 (i - 1))<(x.trip.length:Int))/\(gB [(decide (((at' x.trip i.toNat).bp)<=((at' x.trip ((IntKind.wrap .i64 (i - 1)).toNat)).bp)),false),(decide (0<i),true)]=true->(0:Int)<=(IntKind.wrap .i64 (i - 1))/\(IntKind.wrap .i64 (i - 1))<(x.trip.length:Int))) (
 bif (bif (decide (0<i))then(bif (decide (((at' x.trip i.toNat).bp)<=((at' x.trip ((IntKind.wrap .i64 (i - 1)).toNat)).bp)))then true else(decide (((at' x.trip ((IntKind.wrap .i64 (i - 1)).toNat)).bi)<=((at' x.trip i.toNat).bi))))else false)then
 some (.done (.ret false))
 else
 some (.next (IntKind.wrap .i64 (i+1)))))
 else
 some (.done (.brk ()))
def qh (p:ah) (x:Link):Option Bool:=
 bif (bif (bif (bif (bif (bif (bif (bif (bif (bif (bif (decide (x.a<0))then true else(decide (p.ae<=x.a)))then true else(decide (x.b<0)))then true else(decide (p.ae<=x.b)))then true else(decide (x.a=x.b)))then true else(decide (x.kind<1)))then true else(decide (3<x.kind)))then true else(decide (x.most<1)))then true else(decide (100000<x.most)))then true else(decide (x.ohm<10)))then true else(decide (100000<x.ohm)))then
 some false
 else
 bif (bif (decide (6<(x.trip.length:Int)))then true else(bif (decide (0<(x.trip.length:Int)))then(!decide (x.kind=3))else false))then
 some false
 else
 Option.bind (aH (mH x) FUEL (0)) fun o=>match o with
 | .ret v=>some v
 | .brk _=>
 some true
def lG (p:ah):Int->Option (bK Int (Ex Unit Int)):=
 fun i=>
 bif (decide (i<(p.aa.length:Int)))then
 bA ((0:Int)<=i/\i<(p.aa.length:Int)) (
 bif (bif (bif (bif (bif (bif (bif (bif (bif (bif (decide (((at' p.aa i.toNat).bus)<0))then true else(decide (p.ae<=((at' p.aa i.toNat).bus))))then true else(decide (((at' p.aa i.toNat).kind)<1)))then true else(decide (3<((at' p.aa i.toNat).kind))))then true else(decide (((at' p.aa i.toNat).power)<1)))then true else(decide (100000<((at' p.aa i.toNat).power))))then true else(decide (((at' p.aa i.toNat).br)<0)))then true else(decide (8<((at' p.aa i.toNat).br))))then true else(decide (((at' p.aa i.toNat).ohm)<10)))then true else(decide (100000<((at' p.aa i.toNat).ohm))))then
 some (.done (.ret 11))
 else
 some (.next (IntKind.wrap .i64 (i+1))))
 else
 some (.done (.brk ()))
def lD (p:ah):Int->Option (bK Int (Ex Unit Int)):=
 fun i1=>
 bif (decide (i1<(p.ac.length:Int)))then
 (qh p (at' p.ac i1.toNat)).bind fun r_=>
 bA ((0:Int)<=i1/\i1<(p.ac.length:Int)) (
 bif (!r_)then
 some (.done (.ret 12))
 else
 some (.next (IntKind.wrap .i64 (i1+1))))
 else
 some (.done (.brk ()))
def lI (p:ah):Int->Option (bK Int (Ex Unit Int)):=
 fun i2=>
 bif (decide (i2<(p.am.length:Int)))then
 bA ((0:Int)<=i2/\i2<(p.am.length:Int)) (
 bif (decide ((((at' p.am i2.toNat).bh).e1)=(-1)))then
 bif (bif (bif (bif (bif (bif (bif (bif (bif (decide ((((at' p.am i2.toNat).bh).e0)<0))then true else(decide (p.ae<=(((at' p.am i2.toNat).bh).e0))))then true else(decide ((((at' p.am i2.toNat).bh).e1)<(-1))))then true else(decide (p.ae<=(((at' p.am i2.toNat).bh).e1))))then true else(decide ((((at' p.am i2.toNat).bh).e0)=(((at' p.am i2.toNat).bh).e1))))then true else(decide (((at' p.am i2.toNat).power)<1)))then true else(decide (100000<((at' p.am i2.toNat).power))))then true else(decide (((at' p.am i2.toNat).bk)<0)))then true else(decide (1<((at' p.am i2.toNat).bk))))then
 some (.done (.ret 13))
 else
 some (.next (IntKind.wrap .i64 (i2+1)))
 else
 bif (bif (bif (bif (bif (bif (bif (bif (bif (decide ((((at' p.am i2.toNat).bh).e0)<0))then true else(decide (p.ae<=(((at' p.am i2.toNat).bh).e0))))then true else(decide ((((at' p.am i2.toNat).bh).e1)<(-1))))then true else(decide (p.ae<=(((at' p.am i2.toNat).bh).e1))))then true else(decide ((((at' p.am i2.toNat).bh).e0)=(((at' p.am i2.toNat).bh).e1))))then true else(decide (((at' p.am i2.toNat).power)<1)))then true else(decide (100000<((at' p.am i2.toNat).power))))then true else(decide (((at' p.am i2.toNat).bk)<0)))then true else(decide (2<((at' p.am i2.toNat).bk))))then
 some (.done (.ret 13))
 else
 some (.next (IntKind.wrap .i64 (i2+1))))
 else
 some (.done (.brk ()))
def gM (p:ah):Option Int:=
 bif (bif (decide (p.ae<1))then true else(decide (24<p.ae)))then
 some 10
 else
 bif (decide (8<(p.aa.length:Int)))then
 some 11
 else
 Option.bind (aH (lG p) FUEL (0)) fun o=>match o with
 | .ret v=>some v
 | .brk _=>
 bif (decide (40<(p.ac.length:Int)))then
 some 12
 else
 Option.bind (aH (lD p) FUEL (0)) fun o=>match o with
 | .ret v=>some v
 | .brk _=>
 bif (decide (24<(p.am.length:Int)))then
 some 13
 else
 Option.bind (aH (lI p) FUEL (0)) fun o=>match o with
 | .ret v=>some v
 | .brk _=>
 some 0
def iC  :(ByteArray × Int)->Option (bK (ByteArray × Int) (Ex ByteArray ByteArray)):=
 fun zz=>match zz with
 |(s_,kz)=>
 bif (!decide (kz=0))then
 bA (10≠(0:Int)) (
 bif (decide ((Int.tmod kz 10)<0))then
 bA ((([IntKind.wrap .u8 (IntKind.wrap .i64 ((48:Int)+(IntKind.wrap .i64 (0 - (Int.tmod kz 10)))))].map (DV.int .u8)).all Ce=true)/\((DU [IntKind.wrap .u8 (IntKind.wrap .i64 ((48:Int)+(IntKind.wrap .i64 (0 - (Int.tmod kz 10)))))]).size+s_.size<=9223372036854775807)) (
 bA (10≠(0:Int)) (
 some (.next (ax (DU [IntKind.wrap .u8 (IntKind.wrap .i64 ((48:Int)+(IntKind.wrap .i64 (0 - (Int.tmod kz 10)))))]) s_,IntKind.wrap .i64 (Int.tdiv kz 10)))))
 else
 bA ((([IntKind.wrap .u8 (IntKind.wrap .i64 ((48:Int)+(Int.tmod kz 10)))].map (DV.int .u8)).all Ce=true)/\((DU [IntKind.wrap .u8 (IntKind.wrap .i64 ((48:Int)+(Int.tmod kz 10)))]).size+s_.size<=9223372036854775807)) (
 bA (10≠(0:Int)) (
 some (.next (ax (DU [IntKind.wrap .u8 (IntKind.wrap .i64 ((48:Int)+(Int.tmod kz 10)))]) s_,IntKind.wrap .i64 (Int.tdiv kz 10))))))
 else
 some (.done (.brk s_))
def aV (n:Int):Option ByteArray:=
 bif (decide (n=0))then
 some ⟨#[48]⟩
 else
 Option.bind (aH iC FUEL (⟨#[]⟩,n)) fun o=>match o with
 | .ret v=>some v
 | .brk s_1=>
 bif (decide (n<0))then
 bA ((⟨#[45]⟩:ByteArray).size+s_1.size<=9223372036854775807) (
 some (ax ⟨#[45]⟩ s_1))
 else
 some s_1
def bU:Option (List ByteArray):=
 some [(⟨#[]⟩:ByteArray),⟨#[103,114,105,100]⟩,⟨#[103,101,110,101,114,97,116,111,114]⟩,⟨#[98,97,116,116,101,114,121]⟩]
def dB:Option (List ByteArray):=
 some [(⟨#[]⟩:ByteArray),⟨#[99,97,98,108,101]⟩,⟨#[115,119,105,116,99,104]⟩,⟨#[98,114,101,97,107,101,114]⟩]
def jb (p:ah):(ByteArray × Int)->Option (bK (ByteArray × Int) (Ex ByteArray (ByteArray × Int))):=
 fun zz=>match zz with
 |(t,i)=>
 bif (decide (i<(p.aa.length:Int)))then
 bA ((0:Int)<=i/\i<(p.aa.length:Int)) (
 (aV ((at' p.aa i.toNat).bus)).bind fun r_2=>
 (bU).bind fun r_3=>
 (aV ((at' p.aa i.toNat).power)).bind fun r_4=>
 (aV ((at' p.aa i.toNat).br)).bind fun r_5=>
 (aV ((at' p.aa i.toNat).ohm)).bind fun r_6=>
 bA ((t.size+(⟨#[115,111,117,114,99,101,32]⟩:ByteArray).size<=9223372036854775807)/\((ax t ⟨#[115,111,117,114,99,101,32]⟩).size+r_2.size<=9223372036854775807)/\((ax (ax t ⟨#[115,111,117,114,99,101,32]⟩) r_2).size+(⟨#[32]⟩:ByteArray).size<=9223372036854775807)/\((0:Int)<=(at' p.aa i.toNat).kind/\(at' p.aa i.toNat).kind<(r_3.length:Int))/\((ax (ax (ax t ⟨#[115,111,117,114,99,101,32]⟩) r_2) ⟨#[32]⟩).size+(at' r_3 (((at' p.aa i.toNat).kind).toNat)).size<=9223372036854775807)/\((ax (ax (ax (ax t ⟨#[115,111,117,114,99,101,32]⟩) r_2) ⟨#[32]⟩) (at' r_3 (((at' p.aa i.toNat).kind).toNat))).size+(⟨#[32]⟩:ByteArray).size<=9223372036854775807)/\((ax (ax (ax (ax (ax t ⟨#[115,111,117,114,99,101,32]⟩) r_2) ⟨#[32]⟩) (at' r_3 (((at' p.aa i.toNat).kind).toNat))) ⟨#[32]⟩).size+r_4.size<=9223372036854775807)/\((ax (ax (ax (ax (ax (ax t ⟨#[115,111,117,114,99,101,32]⟩) r_2) ⟨#[32]⟩) (at' r_3 (((at' p.aa i.toNat).kind).toNat))) ⟨#[32]⟩) r_4).size+(⟨#[32]⟩:ByteArray).size<=9223372036854775807)/\((ax (ax (ax (ax (ax (ax (ax t ⟨#[115,111,117,114,99,101,32]⟩) r_2) ⟨#[32]⟩) (at' r_3 (((at' p.aa i.toNat).kind).toNat))) ⟨#[32]⟩) r_4) ⟨#[32]⟩).size+r_5.size<=9223372036854775807)/\((ax (ax (ax (ax (ax (ax (ax (ax t ⟨#[115,111,117,114,99,101,32]⟩) r_2) ⟨#[32]⟩) (at' r_3 (((at' p.aa i.toNat).kind).toNat))) ⟨#[32]⟩) r_4) ⟨#[32]⟩) r_5).size+(⟨#[32]⟩:ByteArray).size<=9223372036854775807)/\((ax (ax (ax (ax (ax (ax (ax (ax (ax t ⟨#[115,111,117,114,99,101,32]⟩) r_2) ⟨#[32]⟩) (at' r_3 (((at' p.aa i.toNat).kind).toNat))) ⟨#[32]⟩) r_4) ⟨#[32]⟩) r_5) ⟨#[32]⟩).size+r_6.size<=9223372036854775807)/\((ax (ax (ax (ax (ax (ax (ax (ax (ax (ax t ⟨#[115,111,117,114,99,101,32]⟩) r_2) ⟨#[32]⟩) (at' r_3 (((at' p.aa i.toNat).kind).toNat))) ⟨#[32]⟩) r_4) ⟨#[32]⟩) r_5) ⟨#[32]⟩) r_6).size+(⟨#[10]⟩:ByteArray).size<=9223372036854775807)) (
 some (.next (ax (ax (ax (ax (ax (ax (ax (ax (ax (ax (ax t ⟨#[115,111,117,114,99,101,32]⟩) r_2) ⟨#[32]⟩) (at' r_3 (((at' p.aa i.toNat).kind).toNat))) ⟨#[32]⟩) r_4) ⟨#[32]⟩) r_5) ⟨#[32]⟩) r_6) ⟨#[10]⟩,IntKind.wrap .i64 (i+1)))))
 else
 some (.done (.brk t))
def iQ (p:ah) (i1:Int):(ByteArray × Int)->Option (bK (ByteArray × Int) (Ex ByteArray (bK (ByteArray × Int) (Ex ByteArray (ByteArray × Int))))):=
 fun zz=>match zz with
 |(t4,kz)=>
 bif (decide (kz<(((at' p.ac i1.toNat).trip).length:Int)))then
 (aV ((at' ((at' p.ac i1.toNat).trip) kz.toNat).bp)).bind fun r_12=>
 (aV ((at' ((at' p.ac i1.toNat).trip) kz.toNat).bi)).bind fun r_13=>
 bA ((t4.size+(⟨#[32]⟩:ByteArray).size<=9223372036854775807)/\((0:Int)<=kz/\kz<(((at' p.ac i1.toNat).trip).length:Int))/\((ax t4 ⟨#[32]⟩).size+r_12.size<=9223372036854775807)/\((ax (ax t4 ⟨#[32]⟩) r_12).size+(⟨#[58]⟩:ByteArray).size<=9223372036854775807)/\((ax (ax (ax t4 ⟨#[32]⟩) r_12) ⟨#[58]⟩).size+r_13.size<=9223372036854775807)) (
 some (.next (ax (ax (ax (ax t4 ⟨#[32]⟩) r_12) ⟨#[58]⟩) r_13,IntKind.wrap .i64 (kz+1))))
 else
 some (.done (.brk t4))
def iZ (p:ah):(ByteArray × Int)->Option (bK (ByteArray × Int) (Ex ByteArray (ByteArray × Int))):=
 fun zz=>match zz with
 |(t2,i1)=>
 bif (decide (i1<(p.ac.length:Int)))then
 bA ((0:Int)<=i1/\i1<(p.ac.length:Int)) (
 (aV ((at' p.ac i1.toNat).a)).bind fun r_7=>
 (aV ((at' p.ac i1.toNat).b)).bind fun r_8=>
 (dB).bind fun r_9=>
 (aV ((at' p.ac i1.toNat).most)).bind fun r_10=>
 (aV ((at' p.ac i1.toNat).ohm)).bind fun r_11=>
 bA ((t2.size+(⟨#[108,105,110,107,32]⟩:ByteArray).size<=9223372036854775807)/\((ax t2 ⟨#[108,105,110,107,32]⟩).size+r_7.size<=9223372036854775807)/\((ax (ax t2 ⟨#[108,105,110,107,32]⟩) r_7).size+(⟨#[32]⟩:ByteArray).size<=9223372036854775807)/\((ax (ax (ax t2 ⟨#[108,105,110,107,32]⟩) r_7) ⟨#[32]⟩).size+r_8.size<=9223372036854775807)/\((ax (ax (ax (ax t2 ⟨#[108,105,110,107,32]⟩) r_7) ⟨#[32]⟩) r_8).size+(⟨#[32]⟩:ByteArray).size<=9223372036854775807)/\((0:Int)<=(at' p.ac i1.toNat).kind/\(at' p.ac i1.toNat).kind<(r_9.length:Int))/\((ax (ax (ax (ax (ax t2 ⟨#[108,105,110,107,32]⟩) r_7) ⟨#[32]⟩) r_8) ⟨#[32]⟩).size+(at' r_9 (((at' p.ac i1.toNat).kind).toNat)).size<=9223372036854775807)/\((ax (ax (ax (ax (ax (ax t2 ⟨#[108,105,110,107,32]⟩) r_7) ⟨#[32]⟩) r_8) ⟨#[32]⟩) (at' r_9 (((at' p.ac i1.toNat).kind).toNat))).size+(⟨#[32]⟩:ByteArray).size<=9223372036854775807)/\((ax (ax (ax (ax (ax (ax (ax t2 ⟨#[108,105,110,107,32]⟩) r_7) ⟨#[32]⟩) r_8) ⟨#[32]⟩) (at' r_9 (((at' p.ac i1.toNat).kind).toNat))) ⟨#[32]⟩).size+r_10.size<=9223372036854775807)/\((ax (ax (ax (ax (ax (ax (ax (ax t2 ⟨#[108,105,110,107,32]⟩) r_7) ⟨#[32]⟩) r_8) ⟨#[32]⟩) (at' r_9 (((at' p.ac i1.toNat).kind).toNat))) ⟨#[32]⟩) r_10).size+(⟨#[32]⟩:ByteArray).size<=9223372036854775807)/\((ax (ax (ax (ax (ax (ax (ax (ax (ax t2 ⟨#[108,105,110,107,32]⟩) r_7) ⟨#[32]⟩) r_8) ⟨#[32]⟩) (at' r_9 (((at' p.ac i1.toNat).kind).toNat))) ⟨#[32]⟩) r_10) ⟨#[32]⟩).size+r_11.size<=9223372036854775807)) (
 Option.bind (aH (iQ p i1) FUEL (ax (ax (ax (ax (ax (ax (ax (ax (ax (ax t2 ⟨#[108,105,110,107,32]⟩) r_7) ⟨#[32]⟩) r_8) ⟨#[32]⟩) (at' r_9 (((at' p.ac i1.toNat).kind).toNat))) ⟨#[32]⟩) r_10) ⟨#[32]⟩) r_11,0)) fun o=>match o with
 | .ret v=>some v
 | .brk t5=>
 bA (t5.size+(⟨#[10]⟩:ByteArray).size<=9223372036854775807) (
 some (.next (ax t5 ⟨#[10]⟩,IntKind.wrap .i64 (i1+1))))))
 else
 some (.done (.brk t2))
def iX (p:ah):(ByteArray × Int)->Option (bK (ByteArray × Int) (Ex ByteArray (ByteArray × Int))):=
 fun zz=>match zz with
 |(t6,i2)=>
 bif (decide (i2<(p.am.length:Int)))then
 bA ((0:Int)<=i2/\i2<(p.am.length:Int)) (
 (aV (((at' p.am i2.toNat).bh).e0)).bind fun r_14=>
 (aV (((at' p.am i2.toNat).bh).e1)).bind fun r_15=>
 (aV ((at' p.am i2.toNat).power)).bind fun r_16=>
 (aV ((at' p.am i2.toNat).bk)).bind fun r_17=>
 bA ((t6.size+(⟨#[114,97,99,107,32]⟩:ByteArray).size<=9223372036854775807)/\((ax t6 ⟨#[114,97,99,107,32]⟩).size+r_14.size<=9223372036854775807)/\((ax (ax t6 ⟨#[114,97,99,107,32]⟩) r_14).size+(⟨#[32]⟩:ByteArray).size<=9223372036854775807)/\((ax (ax (ax t6 ⟨#[114,97,99,107,32]⟩) r_14) ⟨#[32]⟩).size+r_15.size<=9223372036854775807)/\((ax (ax (ax (ax t6 ⟨#[114,97,99,107,32]⟩) r_14) ⟨#[32]⟩) r_15).size+(⟨#[32]⟩:ByteArray).size<=9223372036854775807)/\((ax (ax (ax (ax (ax t6 ⟨#[114,97,99,107,32]⟩) r_14) ⟨#[32]⟩) r_15) ⟨#[32]⟩).size+r_16.size<=9223372036854775807)/\((ax (ax (ax (ax (ax (ax t6 ⟨#[114,97,99,107,32]⟩) r_14) ⟨#[32]⟩) r_15) ⟨#[32]⟩) r_16).size+(⟨#[32]⟩:ByteArray).size<=9223372036854775807)/\((ax (ax (ax (ax (ax (ax (ax t6 ⟨#[114,97,99,107,32]⟩) r_14) ⟨#[32]⟩) r_15) ⟨#[32]⟩) r_16) ⟨#[32]⟩).size+r_17.size<=9223372036854775807)/\((ax (ax (ax (ax (ax (ax (ax (ax t6 ⟨#[114,97,99,107,32]⟩) r_14) ⟨#[32]⟩) r_15) ⟨#[32]⟩) r_16) ⟨#[32]⟩) r_17).size+(⟨#[10]⟩:ByteArray).size<=9223372036854775807)) (
 some (.next (ax (ax (ax (ax (ax (ax (ax (ax (ax t6 ⟨#[114,97,99,107,32]⟩) r_14) ⟨#[32]⟩) r_15) ⟨#[32]⟩) r_16) ⟨#[32]⟩) r_17) ⟨#[10]⟩,IntKind.wrap .i64 (i2+1)))))
 else
 some (.done (.brk t6))
def iw (p:ah):Option (ByteArray × Int):=
 (gM p).bind fun r_=>
 bif (!decide (r_=0))then
 some (⟨#[]⟩,r_)
 else
 (aV p.ae).bind fun r_1=>
 bA (((⟨#[112,108,97,110,116,32]⟩:ByteArray).size+r_1.size<=9223372036854775807)/\((ax ⟨#[112,108,97,110,116,32]⟩ r_1).size+(⟨#[10]⟩:ByteArray).size<=9223372036854775807)) (
 Option.bind (aH (jb p) FUEL (ax (ax ⟨#[112,108,97,110,116,32]⟩ r_1) ⟨#[10]⟩,0)) fun o=>match o with
 | .ret v=>some v
 | .brk t1=>
 Option.bind (aH (iZ p) FUEL (t1,0)) fun o=>match o with
 | .ret v=>some v
 | .brk t3=>
 Option.bind (aH (iX p) FUEL (t3,0)) fun o=>match o with
 | .ret v=>some v
 | .brk t7=>
 some (t7,0))
def aU (n:Int) (first:Int) (last:Int):Option Bool:=
 some (bif (decide (first<=n))then(decide (n<=last))else false)
def qP (p:ah):Option (Int × (List Source) × (List Link) × (List aF)):=
 some (p.ae,p.aa,p.ac,p.am)
def vF (p:ah):Option (Int × (List Source) × (List Link) × (List aF)):=
 some (p.ae,p.aa,p.ac,p.am)
def uS (p:ah):Option (Int × (List Source) × (List Link) × (List aF)):=
 some (p.ae,p.aa,p.ac,p.am)
def lH (x:Source) (x1:Int) (x11:List Source) (x12:List Link) (x13:List aF):Option Bool:=
 (aU x.bus 0 (IntKind.wrap .i64 (x1 - 1))).bind fun r_=>
 (bif gB [(r_,true)]then aU x.kind 1 3 else some default).bind fun r_1=>
 (bif gB [((bif r_ then r_1 else false),true)]then aU x.power 1 100000 else some default).bind fun r_2=>
 (bif gB [((bif (bif r_ then r_1 else false)then r_2 else false),true)]then aU x.br 0 8 else some default).bind fun r_3=>
 (bif gB [((bif (bif (bif r_ then r_1 else false)then r_2 else false)then r_3 else false),true)]then aU x.ohm 10 100000 else some default).bind fun r_4=>
 some (bif (bif (bif (bif r_ then r_1 else false)then r_2 else false)then r_3 else false)then r_4 else false)
def qX (x:Source) (x1:Int) (x11:List Source) (x12:List Link) (x13:List aF):Option Bool:=
 (lH x x1 x11 x12 x13).bind fun r_=>
 some (!r_)
def kI (s_:List Source) (f_:Int) (f_1:List Source) (f_2:List Link) (f_3:List aF):Int->Option (bK Int (Ex Unit Int)):=
 fun t8=>
 bif (decide (t8<(s_.length:Int)))then
 (qX (at' s_ t8.toNat) f_ f_1 f_2 f_3).bind fun r_=>
 bA ((0:Int)<=t8/\t8<(s_.length:Int)) (
 bif r_ then
 some (.done (.ret t8))
 else
 some (.next (IntKind.wrap .i64 (t8+1))))
 else
 some (.done (.brk ()))
def mQ (s_:List Source) (f_:Int) (f_1:List Source) (f_2:List Link) (f_3:List aF):Option Int:=
 Option.bind (aH (kI s_ f_ f_1 f_2 f_3) FUEL (0)) fun o=>match o with
 | .ret v=>some v
 | .brk _=>
 some (-1)
def iD (s_:List Source) (f_:Int) (f_1:List Source) (f_2:List Link) (f_3:List aF):Option Bool:=
 (mQ s_ f_ f_1 f_2 f_3).bind fun r_=>
 some (decide (0<=r_))
def qm (l:List Source) (most:Int) (right:Int) (right1:List Source) (right2:List Link) (right3:List aF):Option Bool:=
 (bif gB [(decide ((l.length:Int)<=most),true)]then iD l right right1 right2 right3 else some default).bind fun r_=>
 some (bif (decide ((l.length:Int)<=most))then(!r_)else false)
def kQ (x:Link):Int->Option (bK Int (Ex Unit Bool)):=
 fun t50=>
 bif (decide (t50<(x.trip.length:Int)))then
 bA ((0:Int)<=t50/\t50<(x.trip.length:Int)) (
 (aU ((at' x.trip t50.toNat).bp) 1 1000000).bind fun r_5=>
 (bif gB [(!r_5,false)]then aU ((at' x.trip t50.toNat).bi) 1 100000 else some default).bind fun r_6=>
 bA ((gB [(decide (0<t50),true),((bif (!r_5)then true else(!r_6)),false)]=true->(0:Int)<=(IntKind.wrap .i64 (t50 - 1))/\(IntKind.wrap .i64 (t50 - 1))<(x.trip.length:Int))/\(gB [(decide (((at' x.trip t50.toNat).bp)<=((at' x.trip ((IntKind.wrap .i64 (t50 - 1)).toNat)).bp)),false),(decide (0<t50),true),((bif (!r_5)then true else(!r_6)),false)]=true->(0:Int)<=(IntKind.wrap .i64 (t50 - 1))/\(IntKind.wrap .i64 (t50 - 1))<(x.trip.length:Int))) (
 bif (bif (bif (!r_5)then true else(!r_6))then true else(bif (decide (0<t50))then(bif (decide (((at' x.trip t50.toNat).bp)<=((at' x.trip ((IntKind.wrap .i64 (t50 - 1)).toNat)).bp)))then true else(decide (((at' x.trip ((IntKind.wrap .i64 (t50 - 1)).toNat)).bi)<=((at' x.trip t50.toNat).bi))))else false))then
 some (.done (.ret false))
 else
 some (.next (IntKind.wrap .i64 (t50+1)))))
 else
 some (.done (.brk ()))
def nO (x:Link) (x1:Int) (x11:List Source) (x12:List Link) (x13:List aF):Option Bool:=
 (aU x.a 0 (IntKind.wrap .i64 (x1 - 1))).bind fun r_=>
 (bif gB [(!r_,false)]then aU x.b 0 (IntKind.wrap .i64 (x1 - 1))else some default).bind fun r_1=>
 (bif gB [((bif (bif (!r_)then true else(!r_1))then true else(decide (x.a=x.b))),false)]then aU x.kind 1 3 else some default).bind fun r_2=>
 (bif gB [((bif (bif (bif (!r_)then true else(!r_1))then true else(decide (x.a=x.b)))then true else(!r_2)),false)]then aU x.most 1 100000 else some default).bind fun r_3=>
 (bif gB [((bif (bif (bif (bif (!r_)then true else(!r_1))then true else(decide (x.a=x.b)))then true else(!r_2))then true else(!r_3)),false)]then aU x.ohm 10 100000 else some default).bind fun r_4=>
 bif (bif (bif (bif (bif (bif (!r_)then true else(!r_1))then true else(decide (x.a=x.b)))then true else(!r_2))then true else(!r_3))then true else(!r_4))then
 some false
 else
 Option.bind (aH (kQ x) FUEL (0)) fun o=>match o with
 | .ret v=>some v
 | .brk _=>
 some (bif (decide ((x.trip.length:Int)<=6))then(bif (decide ((x.trip.length:Int)=0))then true else(decide (x.kind=3)))else false)
def nU (x:Link) (x1:Int) (x11:List Source) (x12:List Link) (x13:List aF):Option Bool:=
 (nO x x1 x11 x12 x13).bind fun r_=>
 some (!r_)
def jl (s_:List Link) (f_:Int) (f_1:List Source) (f_2:List Link) (f_3:List aF):Int->Option (bK Int (Ex Unit Int)):=
 fun t8=>
 bif (decide (t8<(s_.length:Int)))then
 (nU (at' s_ t8.toNat) f_ f_1 f_2 f_3).bind fun r_=>
 bA ((0:Int)<=t8/\t8<(s_.length:Int)) (
 bif r_ then
 some (.done (.ret t8))
 else
 some (.next (IntKind.wrap .i64 (t8+1))))
 else
 some (.done (.brk ()))
def kJ (s_:List Link) (f_:Int) (f_1:List Source) (f_2:List Link) (f_3:List aF):Option Int:=
 Option.bind (aH (jl s_ f_ f_1 f_2 f_3) FUEL (0)) fun o=>match o with
 | .ret v=>some v
 | .brk _=>
 some (-1)
def fH (s_:List Link) (f_:Int) (f_1:List Source) (f_2:List Link) (f_3:List aF):Option Bool:=
 (kJ s_ f_ f_1 f_2 f_3).bind fun r_=>
 some (decide (0<=r_))
def nZ (l:List Link) (most:Int) (right:Int) (right1:List Source) (right2:List Link) (right3:List aF):Option Bool:=
 (bif gB [(decide ((l.length:Int)<=most),true)]then fH l right right1 right2 right3 else some default).bind fun r_=>
 some (bif (decide ((l.length:Int)<=most))then(!r_)else false)
def pq (x:aF):Option Int:=
 bif (decide (x.bh.e1=(-1)))then
 some 1
 else
 some 2
def nQ (x:aF) (x1:Int) (x11:List Source) (x12:List Link) (x13:List aF):Option Bool:=
 (aU x.bh.e0 0 (IntKind.wrap .i64 (x1 - 1))).bind fun r_=>
 (bif gB [(r_,true)]then aU x.bh.e1 (-1) (IntKind.wrap .i64 (x1 - 1))else some default).bind fun r_1=>
 (bif gB [((bif (bif r_ then r_1 else false)then(!decide (x.bh.e0=x.bh.e1))else false),true)]then aU x.power 1 100000 else some default).bind fun r_2=>
 (bif gB [((bif (bif (bif r_ then r_1 else false)then(!decide (x.bh.e0=x.bh.e1))else false)then r_2 else false),true)]then pq x else some default).bind fun r_3=>
 (bif gB [((bif (bif (bif r_ then r_1 else false)then(!decide (x.bh.e0=x.bh.e1))else false)then r_2 else false),true)]then aU x.bk 0 r_3 else some default).bind fun r_4=>
 some (bif (bif (bif (bif r_ then r_1 else false)then(!decide (x.bh.e0=x.bh.e1))else false)then r_2 else false)then r_4 else false)
def nH (x:aF) (x1:Int) (x11:List Source) (x12:List Link) (x13:List aF):Option Bool:=
 (nQ x x1 x11 x12 x13).bind fun r_=>
 some (!r_)
def jm (s_:List aF) (f_:Int) (f_1:List Source) (f_2:List Link) (f_3:List aF):Int->Option (bK Int (Ex Unit Int)):=
 fun t8=>
 bif (decide (t8<(s_.length:Int)))then
 (nH (⟨(at' s_ t8.toNat).bh,(at' s_ t8.toNat).power,(at' s_ t8.toNat).bk⟩:aF) f_ f_1 f_2 f_3).bind fun r_=>
 bA ((0:Int)<=t8/\t8<(s_.length:Int)) (
 bif r_ then
 some (.done (.ret t8))
 else
 some (.next (IntKind.wrap .i64 (t8+1))))
 else
 some (.done (.brk ()))
def kM (s_:List aF) (f_:Int) (f_1:List Source) (f_2:List Link) (f_3:List aF):Option Int:=
 Option.bind (aH (jm s_ f_ f_1 f_2 f_3) FUEL (0)) fun o=>match o with
 | .ret v=>some v
 | .brk _=>
 some (-1)
def fJ (s_:List aF) (f_:Int) (f_1:List Source) (f_2:List Link) (f_3:List aF):Option Bool:=
 (kM s_ f_ f_1 f_2 f_3).bind fun r_=>
 some (decide (0<=r_))
def nX (l:List aF) (most:Int) (right:Int) (right1:List Source) (right2:List Link) (right3:List aF):Option Bool:=
 (bif gB [(decide ((l.length:Int)<=most),true)]then fJ l right right1 right2 right3 else some default).bind fun r_=>
 some (bif (decide ((l.length:Int)<=most))then(!r_)else false)
def fI (p:ah):Option Int:=
 (aU p.ae 1 24).bind fun r_=>
 bif (!r_)then
 some 10
 else
 (qP p).bind fun r_1=>
 (qm p.aa 8 r_1.1 r_1.2.1 r_1.2.2.1 r_1.2.2.2).bind fun r_2=>
 bif (!r_2)then
 some 11
 else
 (vF p).bind fun r_3=>
 (nZ p.ac 40 r_3.1 r_3.2.1 r_3.2.2.1 r_3.2.2.2).bind fun r_4=>
 bif (!r_4)then
 some 12
 else
 (uS p).bind fun r_5=>
 (nX p.am 24 r_5.1 r_5.2.1 r_5.2.2.1 r_5.2.2.2).bind fun r_6=>
 bif (!r_6)then
 some 13
 else
 some 0
def lW:Option (List (ByteArray × Int)):=
 some (aD bB ⟨#[98,97,116,116,101,114,121]⟩ 3 (aD bB ⟨#[103,101,110,101,114,97,116,111,114]⟩ 2 (aD bB ⟨#[103,114,105,100]⟩ 1 ([]:(List (ByteArray × Int))))))
def nL:Option (List (ByteArray × Int)):=
 some (aD bB ⟨#[98,114,101,97,107,101,114]⟩ 3 (aD bB ⟨#[115,119,105,116,99,104]⟩ 2 (aD bB ⟨#[99,97,98,108,101]⟩ 1 ([]:(List (ByteArray × Int))))))
def sP:Option (List (ByteArray × Int)):=
 some (aD bB ⟨#[114,97,99,107]⟩ 4 (aD bB ⟨#[108,105,110,107]⟩ 3 (aD bB ⟨#[115,111,117,114,99,101]⟩ 2 (aD bB ⟨#[112,108,97,110,116]⟩ 1 ([]:(List (ByteArray × Int)))))))
def kF (words:List (ByteArray × Int)) (w_:ByteArray):Option (Option Int):=
 fG (dZ ((bn bB w_ words).isSome)) (fun r_=>
 some (some ((bn bB w_ words).getD 0))) (
 some none)
def ig (words:List (ByteArray × Int)) (w_:ByteArray):Option (Option Int):=
 fG (dZ ((bn bB w_ words).isSome)) (fun r_=>
 some (some ((bn bB w_ words).getD 0))) (
 some none)
def fV (r_:List ByteArray):((List aQ) × Int)->Option (bK ((List aQ) × Int) (Ex (List aQ) (Option (Int × ah)))):=
 fun zz=>match zz with
 |(x5,t122)=>
 bif (decide (t122<(((r_.length - 6):Nat):Int)))then
 bA ((0:Int)<=t122/\t122<((r_.drop 6).length:Int)) (
 (dA (at' (r_.drop 6) t122.toNat) ⟨#[58]⟩).bind fun r_19=>
 fG (dZ r_19.2.2) (fun r_20=>
 fG (bg r_19.1) (fun r_21=>
 fG (bg r_19.2.1) (fun r_22=>
 bA (((x5.length+[(⟨r_21,r_22⟩:aQ)].length)*16<=140737488355328)/\(x5.length+[(⟨r_21,r_22⟩:aQ)].length<=4611686018427387904)) (
 some (.next (x5++[(⟨r_21,r_22⟩:aQ)],IntKind.wrap .i64 (t122+1))))) (
 some (.done (.ret none)))) (
 some (.done (.ret none)))) (
 some (.done (.ret none))))
 else
 some (.done (.brk x5))
def qj (rank:Int) (s_:ByteArray) (plant:ah):Option (Option (Int × ah)):=
 (iM s_ ⟨#[32]⟩).bind fun r_=>
 (sP).bind fun r_1=>
 bA ((0:Int)<=0/\0<(r_.length:Int)) (
 fG (dZ (bif (bif (bn bB (at' r_ 0) r_1).isSome then(decide (rank<=((bn bB (at' r_ 0) r_1).getD 0)))else false)then((decide (1<((bn bB (at' r_ 0) r_1).getD 0)))==(decide (0<rank)))else false)) (fun r_2=>
 bif (decide (((bn bB (at' r_ 0) r_1).getD 0)=1))then
 fG (dZ (decide ((r_.length:Int)=2))) (fun r_3=>
 fG (bg (at' r_ 1)) (fun r_4=>
 bA ((0:Int)<=1/\1<(r_.length:Int)) (
 some (some ((bn bB (at' r_ 0) r_1).getD 0,(⟨r_4,plant.aa,plant.ac,plant.am⟩:ah))))) (
 bA ((0:Int)<=1/\1<(r_.length:Int)) (
 some none))) (
 some none)
 else
 bif (decide (((bn bB (at' r_ 0) r_1).getD 0)=2))then
 fG (dZ (decide ((r_.length:Int)=6))) (fun r_5=>
 fG (bg (at' r_ 1)) (fun r_6=>
 (lW).bind fun r_7=>
 fG (kF r_7 (at' r_ 2)) (fun r_8=>
 fG (bg (at' r_ 3)) (fun r_9=>
 fG (bg (at' r_ 4)) (fun r_10=>
 fG (bg (at' r_ 5)) (fun r_11=>
 bA (((0:Int)<=1/\1<(r_.length:Int))/\((0:Int)<=2/\2<(r_.length:Int))/\((0:Int)<=3/\3<(r_.length:Int))/\((0:Int)<=4/\4<(r_.length:Int))/\((0:Int)<=5/\5<(r_.length:Int))/\((plant.aa.length+[(⟨r_6,r_8,r_9,r_10,r_11⟩:Source)].length)*40<=140737488355328)/\(plant.aa.length+[(⟨r_6,r_8,r_9,r_10,r_11⟩:Source)].length<=4611686018427387904)) (
 some (some ((bn bB (at' r_ 0) r_1).getD 0,(⟨plant.ae,plant.aa++[(⟨r_6,r_8,r_9,r_10,r_11⟩:Source)],plant.ac,plant.am⟩:ah))))) (
 bA (((0:Int)<=1/\1<(r_.length:Int))/\((0:Int)<=2/\2<(r_.length:Int))/\((0:Int)<=3/\3<(r_.length:Int))/\((0:Int)<=4/\4<(r_.length:Int))/\((0:Int)<=5/\5<(r_.length:Int))) (
 some none))) (
 bA (((0:Int)<=1/\1<(r_.length:Int))/\((0:Int)<=2/\2<(r_.length:Int))/\((0:Int)<=3/\3<(r_.length:Int))/\((0:Int)<=4/\4<(r_.length:Int))/\((0:Int)<=5/\5<(r_.length:Int))) (
 some none))) (
 bA (((0:Int)<=1/\1<(r_.length:Int))/\((0:Int)<=2/\2<(r_.length:Int))/\((0:Int)<=3/\3<(r_.length:Int))/\((0:Int)<=4/\4<(r_.length:Int))/\((0:Int)<=5/\5<(r_.length:Int))) (
 some none))) (
 bA (((0:Int)<=1/\1<(r_.length:Int))/\((0:Int)<=2/\2<(r_.length:Int))/\((0:Int)<=3/\3<(r_.length:Int))/\((0:Int)<=4/\4<(r_.length:Int))/\((0:Int)<=5/\5<(r_.length:Int))) (
 some none))) (
 bA (((0:Int)<=1/\1<(r_.length:Int))/\((0:Int)<=2/\2<(r_.length:Int))/\((0:Int)<=3/\3<(r_.length:Int))/\((0:Int)<=4/\4<(r_.length:Int))/\((0:Int)<=5/\5<(r_.length:Int))) (
 some none))) (
 some none)
 else
 bif (decide (((bn bB (at' r_ 0) r_1).getD 0)=3))then
 fG (dZ (decide (6<=(r_.length:Int)))) (fun r_12=>
 fG (bg (at' r_ 1)) (fun r_13=>
 fG (bg (at' r_ 2)) (fun r_14=>
 (nL).bind fun r_15=>
 fG (ig r_15 (at' r_ 3)) (fun r_16=>
 fG (bg (at' r_ 4)) (fun r_17=>
 fG (bg (at' r_ 5)) (fun r_18=>
 bA (((0:Int)<=1/\1<(r_.length:Int))/\((0:Int)<=2/\2<(r_.length:Int))/\((0:Int)<=3/\3<(r_.length:Int))/\((0:Int)<=4/\4<(r_.length:Int))/\((0:Int)<=5/\5<(r_.length:Int))) (
 bA ((0:Int)<=(6:Int)/\(6:Int)<=(r_.length:Int)) (
 Option.bind (aH (fV r_) FUEL (([]:List aQ),0)) fun o=>match o with
 | .ret v=>some v
 | .brk x51=>
 bA (((plant.ac.length+[(⟨r_13,r_14,r_16,r_17,r_18,x51⟩:Link)].length)*64<=140737488355328)/\(plant.ac.length+[(⟨r_13,r_14,r_16,r_17,r_18,x51⟩:Link)].length<=4611686018427387904)) (
 some (some ((bn bB (at' r_ 0) r_1).getD 0,(⟨plant.ae,plant.aa,plant.ac++[(⟨r_13,r_14,r_16,r_17,r_18,x51⟩:Link)],plant.am⟩:ah))))))) (
 bA (((0:Int)<=1/\1<(r_.length:Int))/\((0:Int)<=2/\2<(r_.length:Int))/\((0:Int)<=3/\3<(r_.length:Int))/\((0:Int)<=4/\4<(r_.length:Int))/\((0:Int)<=5/\5<(r_.length:Int))) (
 some none))) (
 bA (((0:Int)<=1/\1<(r_.length:Int))/\((0:Int)<=2/\2<(r_.length:Int))/\((0:Int)<=3/\3<(r_.length:Int))/\((0:Int)<=4/\4<(r_.length:Int))/\((0:Int)<=5/\5<(r_.length:Int))) (
 some none))) (
 bA (((0:Int)<=1/\1<(r_.length:Int))/\((0:Int)<=2/\2<(r_.length:Int))/\((0:Int)<=3/\3<(r_.length:Int))/\((0:Int)<=4/\4<(r_.length:Int))/\((0:Int)<=5/\5<(r_.length:Int))) (
 some none))) (
 bA (((0:Int)<=1/\1<(r_.length:Int))/\((0:Int)<=2/\2<(r_.length:Int))/\((0:Int)<=3/\3<(r_.length:Int))/\((0:Int)<=4/\4<(r_.length:Int))/\((0:Int)<=5/\5<(r_.length:Int))) (
 some none))) (
 bA (((0:Int)<=1/\1<(r_.length:Int))/\((0:Int)<=2/\2<(r_.length:Int))/\((0:Int)<=3/\3<(r_.length:Int))/\((0:Int)<=4/\4<(r_.length:Int))/\((0:Int)<=5/\5<(r_.length:Int))) (
 some none))) (
 some none)
 else
 bif (decide (((bn bB (at' r_ 0) r_1).getD 0)=4))then
 fG (dZ (decide ((r_.length:Int)=5))) (fun r_23=>
 fG (bg (at' r_ 1)) (fun r_24=>
 fG (bg (at' r_ 2)) (fun r_25=>
 fG (bg (at' r_ 3)) (fun r_26=>
 fG (bg (at' r_ 4)) (fun r_27=>
 bA (((0:Int)<=1/\1<(r_.length:Int))/\((0:Int)<=2/\2<(r_.length:Int))/\((0:Int)<=3/\3<(r_.length:Int))/\((0:Int)<=4/\4<(r_.length:Int))/\((plant.am.length+[(⟨(⟨r_24,r_25⟩:aC),r_26,r_27⟩:aF)].length)*32<=140737488355328)/\(plant.am.length+[(⟨(⟨r_24,r_25⟩:aC),r_26,r_27⟩:aF)].length<=4611686018427387904)) (
 some (some ((bn bB (at' r_ 0) r_1).getD 0,(⟨plant.ae,plant.aa,plant.ac,plant.am++[(⟨(⟨r_24,r_25⟩:aC),r_26,r_27⟩:aF)]⟩:ah))))) (
 bA (((0:Int)<=1/\1<(r_.length:Int))/\((0:Int)<=2/\2<(r_.length:Int))/\((0:Int)<=3/\3<(r_.length:Int))/\((0:Int)<=4/\4<(r_.length:Int))) (
 some none))) (
 bA (((0:Int)<=1/\1<(r_.length:Int))/\((0:Int)<=2/\2<(r_.length:Int))/\((0:Int)<=3/\3<(r_.length:Int))/\((0:Int)<=4/\4<(r_.length:Int))) (
 some none))) (
 bA (((0:Int)<=1/\1<(r_.length:Int))/\((0:Int)<=2/\2<(r_.length:Int))/\((0:Int)<=3/\3<(r_.length:Int))/\((0:Int)<=4/\4<(r_.length:Int))) (
 some none))) (
 bA (((0:Int)<=1/\1<(r_.length:Int))/\((0:Int)<=2/\2<(r_.length:Int))/\((0:Int)<=3/\3<(r_.length:Int))/\((0:Int)<=4/\4<(r_.length:Int))) (
 some none))) (
 some none)
 else
 some (some ((bn bB (at' r_ 0) r_1).getD 0,plant))) (
 some none))
def dm  :(Int × (List Source) × (List Link) × (List aF) × ByteArray × Int × Int)->Option (bK (Int × (List Source) × (List Link) × (List aF) × ByteArray × Int × Int) (Ex (Int × (List Source) × (List Link) × (List aF) × Int) (Sum (Int × (List Source) × (List Link) × (List aF) × Bool × Int) (Int × (List Source) × (List Link) × (List aF) × Int)))):=
 fun zz=>match zz with
 |(o0,o1,o2,o3,text1,n,rank)=>
 bif (!((text1:ByteArray).toList==(⟨#[]⟩:ByteArray).toList))then
 (dA text1 ⟨#[10]⟩).bind fun r_=>
 fG (dZ r_.2.2) (fun r_1=>
 fG (qj rank r_.1 (⟨o0,o1,o2,o3⟩:ah)) (fun r_2=>
 some (.next (r_2.2.ae,r_2.2.aa,r_2.2.ac,r_2.2.am,r_.2.1,IntKind.wrap .i64 (n+1),r_2.1))) (
 some (.done (.ret (.inr (o0,o1,o2,o3,n)))))) (
 some (.done (.ret (.inr (o0,o1,o2,o3,n)))))
 else
 some (.done (.brk (o0,o1,o2,o3,n)))
def oU (text:ByteArray):Option (ah × Int × Bool):=
 Option.bind (α:=Unit) (
 some ()) fun z_=>
 Option.bind (α:=(Sum (Int × (List Source) × (List Link) × (List aF) × Bool × Int) (Int × (List Source) × (List Link) × (List aF) × Int))) (
 Option.bind (aH dm FUEL (0,([]:List Source),([]:List Link),([]:List aF),text,0,0)) fun o=>match o with
 | .ret v=>some v
 | .brk (o01,o11,o21,o31,n1)=>
 some (.inl (o01,o11,o21,o31,decide (0<n1),n1))) fun o=>match o with
 | .inl w_=>
 some ((⟨w_.1,w_.2.1,w_.2.2.1,w_.2.2.2.1⟩:ah),w_.2.2.2.2.2,w_.2.2.2.2.1)
 | .inr x=>
 some ((⟨x.1,x.2.1,x.2.2.1,x.2.2.2.1⟩:ah),x.2.2.2.2,false)
def lZ (text:ByteArray):Option (ah × Int × Int):=
 bif (decide (131072<((text.size:Nat):Int)))then
 some ((⟨0,([]:List Source),([]:List Link),([]:List aF)⟩:ah),0,2)
 else
 (oU text).bind fun r_=>
 bif (!r_.2.2)then
 some ((⟨0,([]:List Source),([]:List Link),([]:List aF)⟩:ah),r_.2.1,3)
 else
 (fI r_.1).bind fun r_1=>
 bif (!decide (r_1=0))then
 some ((⟨0,([]:List Source),([]:List Link),([]:List aF)⟩:ah),r_.2.1,r_1)
 else
 some (r_.1,0,0)
def jP (s_:ByteArray):((List ByteArray) × Int)->Option (bK ((List ByteArray) × Int) (Ex (List ByteArray) (List ByteArray))):=
 fun zz=>match zz with
 |(out,i)=>
 bif (decide (i<((s_.size:Nat):Int)))then
 bA ((0:Int)<=i/\i<((s_.size:Nat):Int)) (
 bif (decide ((at' (aJ s_) i.toNat)=32))then
 bA (((out.length+[(⟨#[]⟩:ByteArray)].length)*16<=140737488355328)/\(out.length+[(⟨#[]⟩:ByteArray)].length<=4611686018427387904)) (
 some (.next (out++[(⟨#[]⟩:ByteArray)],IntKind.wrap .i64 (i+1))))
 else
 bA (((0:Int)<=(IntKind.wrap .i64 ((out.length:Int) - 1))/\(IntKind.wrap .i64 ((out.length:Int) - 1))<(out.length:Int))/\((0:Int)<=i/\i<=(IntKind.wrap .i64 (i+1))/\(IntKind.wrap .i64 (i+1))<=((s_.size:Nat):Int))/\((at' out ((IntKind.wrap .i64 ((out.length:Int) - 1)).toNat)).size+(jh s_ i.toNat ((IntKind.wrap .i64 (i+1)).toNat)).size<=9223372036854775807)) (
 some (.next (out.set ((IntKind.wrap .i64 ((out.length:Int) - 1)).toNat) (ax (at' out ((IntKind.wrap .i64 ((out.length:Int) - 1)).toNat)) (jh s_ i.toNat ((IntKind.wrap .i64 (i+1)).toNat))),IntKind.wrap .i64 (i+1)))))
 else
 some (.done (.brk out))
def oZ (s_:ByteArray):Option (List ByteArray):=
 Option.bind (aH (jP s_) FUEL ([(⟨#[]⟩:ByteArray)],0)) fun o=>match o with
 | .ret v=>some v
 | .brk out1=>
 some out1
def gW (l:List ByteArray) (w_:ByteArray):Int->Option (bK Int (Ex Unit Int)):=
 fun i=>
 bif (decide (i<(l.length:Int)))then
 bA ((0:Int)<=i/\i<(l.length:Int)) (
 bif (((at' l i.toNat):ByteArray).toList==(w_:ByteArray).toList)then
 some (.done (.ret i))
 else
 some (.next (IntKind.wrap .i64 (i+1))))
 else
 some (.done (.brk ()))
def bD (l:List ByteArray) (w_:ByteArray):Option Int:=
 Option.bind (aH (gW l w_) FUEL (1)) fun o=>match o with
 | .ret v=>some v
 | .brk _=>
 some 0
def sH (s_:ByteArray):(Int × Int)->Option (bK (Int × Int) (Ex Int (Int × Bool))):=
 fun zz=>match zz with
 |(n,i)=>
 bif (decide (i<(((jh s_ 1 s_.size).size:Nat):Int)))then
 bA (((0:Int)<=i/\i<(((jh s_ 1 s_.size).size:Nat):Int))/\(gB [(decide ((at' (aJ (jh s_ 1 s_.size)) i.toNat)<48),false)]=true->(0:Int)<=i/\i<(((jh s_ 1 s_.size).size:Nat):Int))) (
 bif (bif (decide ((at' (aJ (jh s_ 1 s_.size)) i.toNat)<48))then true else(decide (57<(at' (aJ (jh s_ 1 s_.size)) i.toNat))))then
 some (.done (.ret (0,false)))
 else
 bA ((0:Int)<=i/\i<(((jh s_ 1 s_.size).size:Nat):Int)) (
 some (.next (IntKind.wrap .i64 ((IntKind.wrap .i64 ((IntKind.wrap .i64 ((10:Int)*n))+(IntKind.wrap .i64 (at' (aJ (jh s_ 1 s_.size)) i.toNat)))) - 48),IntKind.wrap .i64 (i+1)))))
 else
 some (.done (.brk n))
def eP (s_:ByteArray):(Int × Int)->Option (bK (Int × Int) (Ex Int (Int × Bool))):=
 fun zz=>match zz with
 |(n2,i1)=>
 bif (decide (i1<((s_.size:Nat):Int)))then
 bA (((0:Int)<=i1/\i1<((s_.size:Nat):Int))/\(gB [(decide ((at' (aJ s_) i1.toNat)<48),false)]=true->(0:Int)<=i1/\i1<((s_.size:Nat):Int))) (
 bif (bif (decide ((at' (aJ s_) i1.toNat)<48))then true else(decide (57<(at' (aJ s_) i1.toNat))))then
 some (.done (.ret (0,false)))
 else
 bA ((0:Int)<=i1/\i1<((s_.size:Nat):Int)) (
 some (.next (IntKind.wrap .i64 ((IntKind.wrap .i64 ((IntKind.wrap .i64 ((10:Int)*n2))+(IntKind.wrap .i64 (at' (aJ s_) i1.toNat)))) - 48),IntKind.wrap .i64 (i1+1)))))
 else
 some (.done (.brk n2))
def jE (s_:ByteArray):Option (Int × Bool):=
 bA (gB [(decide (0<((s_.size:Nat):Int)),true)]=true->(0:Int)<=(0:Int)/\(0:Int)<((s_.size:Nat):Int)) (
 bif (bif (decide (0<((s_.size:Nat):Int)))then(decide ((at' (aJ s_) 0)=45))else false)then
 bA ((0:Int)<=(1:Int)/\(1:Int)<=((s_.size:Nat):Int)) (
 bif (bif (decide ((((jh s_ 1 s_.size).size:Nat):Int)<1))then true else(decide (9<(((jh s_ 1 s_.size).size:Nat):Int))))then
 some (0,false)
 else
 Option.bind (aH (sH s_) FUEL (0,0)) fun o=>match o with
 | .ret v=>some v
 | .brk n1=>
 bif (!(((jh s_ 1 s_.size):ByteArray).toList==(s_:ByteArray).toList))then
 (aV (IntKind.wrap .i64 (0 - n1))).bind fun r_=>
 some (IntKind.wrap .i64 (0 - n1),(r_:ByteArray).toList==(s_:ByteArray).toList)
 else
 (aV n1).bind fun r_1=>
 some (n1,(r_1:ByteArray).toList==(s_:ByteArray).toList))
 else
 bif (bif (decide (((s_.size:Nat):Int)<1))then true else(decide (9<((s_.size:Nat):Int))))then
 some (0,false)
 else
 Option.bind (aH (eP s_) FUEL (0,0)) fun o=>match o with
 | .ret v=>some v
 | .brk n3=>
 bif (!((s_:ByteArray).toList==(s_:ByteArray).toList))then
 (aV (IntKind.wrap .i64 (0 - n3))).bind fun r_2=>
 some (IntKind.wrap .i64 (0 - n3),(r_2:ByteArray).toList==(s_:ByteArray).toList)
 else
 (aV n3).bind fun r_3=>
 some (n3,(r_3:ByteArray).toList==(s_:ByteArray).toList))
def gZ (l:List ByteArray) (i:Int):(Int × Int)->Option (bK (Int × Int) (Ex Int (bK ((List aQ) × Int) (Ex (List aQ) ((List aQ) × Bool))))):=
 fun zz=>match zz with
 |(at_,kz)=>
 bA ((0:Int)<=i/\i<(l.length:Int)) (
 bif (decide (kz<(((at' l i.toNat).size:Nat):Int)))then
 bA (((0:Int)<=i/\i<(l.length:Int))/\((0:Int)<=kz/\kz<(((at' l i.toNat).size:Nat):Int))) (
 bif (bif (decide ((at' (aJ (at' l i.toNat)) kz.toNat)=58))then(decide (at_<0))else false)then
 some (.next (kz,IntKind.wrap .i64 (kz+1)))
 else
 some (.next (at_,IntKind.wrap .i64 (kz+1))))
 else
 some (.done (.brk at_)))
def fD (l:List ByteArray):((List aQ) × Int)->Option (bK ((List aQ) × Int) (Ex (List aQ) ((List aQ) × Bool))):=
 fun zz=>match zz with
 |(out,i)=>
 bif (decide (i<(l.length:Int)))then
 Option.bind (aH (gZ l i) FUEL (-1,0)) fun o=>match o with
 | .ret v=>some v
 | .brk at_1=>
 bif (decide (at_1<0))then
 some (.done (.ret (([]:List aQ),false)))
 else
 (jE (jh (at' l i.toNat) 0 at_1.toNat)).bind fun r_=>
 bA (((0:Int)<=i/\i<(l.length:Int))/\((0:Int)<=at_1/\at_1<=(((at' l i.toNat).size:Nat):Int))) (
 (jE (jh (at' l i.toNat) ((IntKind.wrap .i64 (at_1+1)).toNat) (at' l i.toNat).size)).bind fun r_1=>
 bA (((0:Int)<=i/\i<(l.length:Int))/\((0:Int)<=(IntKind.wrap .i64 (at_1+1))/\(IntKind.wrap .i64 (at_1+1))<=(((at' l i.toNat).size:Nat):Int))) (
 bif (bif (!r_.2)then true else(!r_1.2))then
 some (.done (.ret (([]:List aQ),false)))
 else
 bA (((out.length+[(⟨r_.1,r_1.1⟩:aQ)].length)*16<=140737488355328)/\(out.length+[(⟨r_.1,r_1.1⟩:aQ)].length<=4611686018427387904)) (
 some (.next (out++[(⟨r_.1,r_1.1⟩:aQ)],IntKind.wrap .i64 (i+1))))))
 else
 some (.done (.brk out))
def oW (l:List ByteArray):Option ((List aQ) × Bool):=
 Option.bind (aH (fD l) FUEL (([]:List aQ),0)) fun o=>match o with
 | .ret v=>some v
 | .brk out1=>
 some (out1,true)
def aP (p:ah) (r_:List ByteArray) (r_1:Int):(Int × Int × Int × Int × Int × Int × Int × Int)->Option (bK (Int × Int × Int × Int × Int × Int × Int × Int) (Ex (Int × Int × Int × Int × Int × Int × Int) (ah × Int))):=
 fun zz=>match zz with
 |(n0,n11,n2,n3,n4,n5,n6,i1)=>
 bif (bif (decide (i1<(r_.length:Int)))then(decide (i1<6))else false)then
 bif (bif (decide (r_1=2))then(decide (i1=2))else false)then
 bif (decide (i1=0))then
 (bU).bind fun r_4=>
 (bD r_4 (at' r_ 0)).bind fun r_5=>
 bA ((0:Int)<=0/\0<(r_.length:Int)) (
 bif (decide (r_5=0))then
 some (.done (.ret (p,0)))
 else
 some (.next (r_5,n11,n2,n3,n4,n5,n6,1)))
 else
 bif (decide (i1=1))then
 (bU).bind fun r_6=>
 (bD r_6 (at' r_ 1)).bind fun r_7=>
 bA ((0:Int)<=1/\1<(r_.length:Int)) (
 bif (decide (r_7=0))then
 some (.done (.ret (p,0)))
 else
 some (.next (n0,r_7,n2,n3,n4,n5,n6,2)))
 else
 bif (decide (i1=2))then
 (bU).bind fun r_8=>
 (bD r_8 (at' r_ 2)).bind fun r_9=>
 bA ((0:Int)<=2/\2<(r_.length:Int)) (
 bif (decide (r_9=0))then
 some (.done (.ret (p,0)))
 else
 some (.next (n0,n11,r_9,n3,n4,n5,n6,3)))
 else
 bif (decide (i1=3))then
 (bU).bind fun r_10=>
 (bD r_10 (at' r_ 3)).bind fun r_11=>
 bA ((0:Int)<=3/\3<(r_.length:Int)) (
 bif (decide (r_11=0))then
 some (.done (.ret (p,0)))
 else
 some (.next (n0,n11,n2,r_11,n4,n5,n6,4)))
 else
 bif (decide (i1=4))then
 (bU).bind fun r_12=>
 (bD r_12 (at' r_ 4)).bind fun r_13=>
 bA ((0:Int)<=4/\4<(r_.length:Int)) (
 bif (decide (r_13=0))then
 some (.done (.ret (p,0)))
 else
 some (.next (n0,n11,n2,n3,r_13,n5,n6,5)))
 else
 bif (decide (i1=5))then
 (bU).bind fun r_14=>
 (bD r_14 (at' r_ 5)).bind fun r_15=>
 bA ((0:Int)<=5/\5<(r_.length:Int)) (
 bif (decide (r_15=0))then
 some (.done (.ret (p,0)))
 else
 some (.next (n0,n11,n2,n3,n4,r_15,n6,6)))
 else
 bA (i1=6) (
 (bU).bind fun r_16=>
 (bD r_16 (at' r_ 6)).bind fun r_17=>
 bA ((0:Int)<=6/\6<(r_.length:Int)) (
 bif (decide (r_17=0))then
 some (.done (.ret (p,0)))
 else
 some (.next (n0,n11,n2,n3,n4,n5,r_17,7))))
 else
 bif (bif (decide (r_1=3))then(decide (i1=3))else false)then
 bif (decide (i1=0))then
 (dB).bind fun r_20=>
 (bD r_20 (at' r_ 0)).bind fun r_21=>
 bA ((0:Int)<=0/\0<(r_.length:Int)) (
 bif (decide (r_21=0))then
 some (.done (.ret (p,0)))
 else
 some (.next (r_21,n11,n2,n3,n4,n5,n6,1)))
 else
 bif (decide (i1=1))then
 (dB).bind fun r_22=>
 (bD r_22 (at' r_ 1)).bind fun r_23=>
 bA ((0:Int)<=1/\1<(r_.length:Int)) (
 bif (decide (r_23=0))then
 some (.done (.ret (p,0)))
 else
 some (.next (n0,r_23,n2,n3,n4,n5,n6,2)))
 else
 bif (decide (i1=2))then
 (dB).bind fun r_24=>
 (bD r_24 (at' r_ 2)).bind fun r_25=>
 bA ((0:Int)<=2/\2<(r_.length:Int)) (
 bif (decide (r_25=0))then
 some (.done (.ret (p,0)))
 else
 some (.next (n0,n11,r_25,n3,n4,n5,n6,3)))
 else
 bif (decide (i1=3))then
 (dB).bind fun r_26=>
 (bD r_26 (at' r_ 3)).bind fun r_27=>
 bA ((0:Int)<=3/\3<(r_.length:Int)) (
 bif (decide (r_27=0))then
 some (.done (.ret (p,0)))
 else
 some (.next (n0,n11,n2,r_27,n4,n5,n6,4)))
 else
 bif (decide (i1=4))then
 (dB).bind fun r_28=>
 (bD r_28 (at' r_ 4)).bind fun r_29=>
 bA ((0:Int)<=4/\4<(r_.length:Int)) (
 bif (decide (r_29=0))then
 some (.done (.ret (p,0)))
 else
 some (.next (n0,n11,n2,n3,r_29,n5,n6,5)))
 else
 bif (decide (i1=5))then
 (dB).bind fun r_30=>
 (bD r_30 (at' r_ 5)).bind fun r_31=>
 bA ((0:Int)<=5/\5<(r_.length:Int)) (
 bif (decide (r_31=0))then
 some (.done (.ret (p,0)))
 else
 some (.next (n0,n11,n2,n3,n4,r_31,n6,6)))
 else
 bA (i1=6) (
 (dB).bind fun r_32=>
 (bD r_32 (at' r_ 6)).bind fun r_33=>
 bA ((0:Int)<=6/\6<(r_.length:Int)) (
 bif (decide (r_33=0))then
 some (.done (.ret (p,0)))
 else
 some (.next (n0,n11,n2,n3,n4,n5,r_33,7))))
 else
 (jE (at' r_ i1.toNat)).bind fun r_34=>
 bA ((0:Int)<=i1/\i1<(r_.length:Int)) (
 bif (!r_34.2)then
 some (.done (.ret (p,0)))
 else
 bif (decide (i1=0))then
 some (.next (r_34.1,n11,n2,n3,n4,n5,n6,1))
 else
 bif (decide (i1=1))then
 some (.next (n0,r_34.1,n2,n3,n4,n5,n6,2))
 else
 bif (decide (i1=2))then
 some (.next (n0,n11,r_34.1,n3,n4,n5,n6,3))
 else
 bif (decide (i1=3))then
 some (.next (n0,n11,n2,r_34.1,n4,n5,n6,4))
 else
 bif (decide (i1=4))then
 some (.next (n0,n11,n2,n3,r_34.1,n5,n6,5))
 else
 bif (decide (i1=5))then
 some (.next (n0,n11,n2,n3,n4,r_34.1,n6,6))
 else
 bA (i1=6) (
 some (.next (n0,n11,n2,n3,n4,n5,r_34.1,7))))
 else
 some (.done (.brk (n0,n11,n2,n3,n4,n5,n6)))
def iO (p:ah) (rank:Int) (s_:ByteArray):Option (ah × Int):=
 (oZ s_).bind fun r_=>
 (bD [(⟨#[]⟩:ByteArray),⟨#[112,108,97,110,116]⟩,⟨#[115,111,117,114,99,101]⟩,⟨#[108,105,110,107]⟩,⟨#[114,97,99,107]⟩] (at' r_ 0)).bind fun r_1=>
 bA ((0:Int)<=0/\0<(r_.length:Int)) (
 bif (bif (bif (decide (r_1=0))then true else(decide (r_1<rank)))then true else(!((decide (r_1=1))==(decide (rank=0)))))then
 some (p,0)
 else
 Option.bind (aH (aP p r_ r_1) FUEL (0,0,0,0,0,0,0,1)) fun o=>match o with
 | .ret v=>some v
 | .brk (n01,n12,n21,n31,n41,n51,n61)=>
 bif (decide (r_1=1))then
 bif (!decide ((r_.length:Int)=2))then
 some (p,0)
 else
 some ((⟨n12,p.aa,p.ac,p.am⟩:ah),r_1)
 else
 bif (decide (r_1=2))then
 bif (!decide ((r_.length:Int)=6))then
 some (p,0)
 else
 bA (((p.aa.length+[(⟨n12,n21,n31,n41,n51⟩:Source)].length)*40<=140737488355328)/\(p.aa.length+[(⟨n12,n21,n31,n41,n51⟩:Source)].length<=4611686018427387904)) (
 some ((⟨p.ae,p.aa++[(⟨n12,n21,n31,n41,n51⟩:Source)],p.ac,p.am⟩:ah),r_1))
 else
 bif (decide (r_1=3))then
 bif (decide ((r_.length:Int)<6))then
 some (p,0)
 else
 (oW (r_.drop 6)).bind fun r_35=>
 bA ((0:Int)<=(6:Int)/\(6:Int)<=(r_.length:Int)) (
 bif (!r_35.2)then
 some (p,0)
 else
 bA (((p.ac.length+[(⟨n12,n21,n31,n41,n51,r_35.1⟩:Link)].length)*64<=140737488355328)/\(p.ac.length+[(⟨n12,n21,n31,n41,n51,r_35.1⟩:Link)].length<=4611686018427387904)) (
 some ((⟨p.ae,p.aa,p.ac++[(⟨n12,n21,n31,n41,n51,r_35.1⟩:Link)],p.am⟩:ah),r_1)))
 else
 bif (decide (r_1=4))then
 bif (!decide ((r_.length:Int)=5))then
 some (p,0)
 else
 bA (((p.am.length+[(⟨(⟨n12,n21⟩:aC),n31,n41⟩:aF)].length)*32<=140737488355328)/\(p.am.length+[(⟨(⟨n12,n21⟩:aC),n31,n41⟩:aF)].length<=4611686018427387904)) (
 some ((⟨p.ae,p.aa,p.ac,p.am++[(⟨(⟨n12,n21⟩:aC),n31,n41⟩:aF)]⟩:ah),r_1))
 else
 some (p,r_1))
def eD (text:ByteArray):Int->Option (bK Int (Ex Int (bK (Int × (List Source) × (List Link) × (List aF) × Int × Int × Int) (Ex (Int × (List Source) × (List Link) × (List aF) × Int) (ah × Int × Int))))):=
 fun to_=>
 bA (gB [(decide (to_<((text.size:Nat):Int)),true)]=true->(0:Int)<=to_/\to_<((text.size:Nat):Int)) (
 bif (bif (decide (to_<((text.size:Nat):Int)))then(!decide ((at' (aJ text) to_.toNat)=10))else false)then
 some (.next (IntKind.wrap .i64 (to_+1)))
 else
 some (.done (.brk to_)))
def di (text:ByteArray):(Int × (List Source) × (List Link) × (List aF) × Int × Int × Int)->Option (bK (Int × (List Source) × (List Link) × (List aF) × Int × Int × Int) (Ex (Int × (List Source) × (List Link) × (List aF) × Int) (ah × Int × Int))):=
 fun zz=>match zz with
 |(p0,p1,p2,p3,n,rank,from_)=>
 bif (decide (from_<((text.size:Nat):Int)))then
 Option.bind (aH (eD text) FUEL (from_)) fun o=>match o with
 | .ret v=>some v
 | .brk to_1=>
 bif (decide (to_1<((text.size:Nat):Int)))then
 (iO (⟨p0,p1,p2,p3⟩:ah) rank (jh text from_.toNat to_1.toNat)).bind fun r_=>
 bA ((0:Int)<=from_/\from_<=to_1/\to_1<=((text.size:Nat):Int)) (
 bif (bif (decide (to_1=((text.size:Nat):Int)))then true else(decide (r_.2=0)))then
 some (.done (.ret ((⟨0,([]:List Source),([]:List Link),([]:List aF)⟩:ah),n,3)))
 else
 some (.next (r_.1.ae,r_.1.aa,r_.1.ac,r_.1.am,IntKind.wrap .i64 (n+1),r_.2,IntKind.wrap .i64 (to_1+1))))
 else
 bif (bif (decide (to_1=((text.size:Nat):Int)))then true else(decide (rank=0)))then
 some (.done (.ret ((⟨0,([]:List Source),([]:List Link),([]:List aF)⟩:ah),n,3)))
 else
 some (.next (p0,p1,p2,p3,IntKind.wrap .i64 (n+1),rank,IntKind.wrap .i64 (to_1+1)))
 else
 some (.done (.brk (p0,p1,p2,p3,n)))
def mg (text:ByteArray):Option (ah × Int × Int):=
 bif (decide (131072<((text.size:Nat):Int)))then
 some ((⟨0,([]:List Source),([]:List Link),([]:List aF)⟩:ah),0,2)
 else
 Option.bind (aH (di text) FUEL (0,([]:List Source),([]:List Link),([]:List aF),0,0,0)) fun o=>match o with
 | .ret v=>some v
 | .brk (p01,p11,p21,p31,n1)=>
 bif (decide (n1=0))then
 some ((⟨0,([]:List Source),([]:List Link),([]:List aF)⟩:ah),0,3)
 else
 (gM (⟨p01,p11,p21,p31⟩:ah)).bind fun r_1=>
 bif (!decide (r_1=0))then
 some ((⟨0,([]:List Source),([]:List Link),([]:List aF)⟩:ah),n1,r_1)
 else
 some ((⟨p01,p11,p21,p31⟩:ah),0,0)
def iU (a:List Source) (b:List Source):Int->Option (bK Int (Ex Unit Bool)):=
 fun i=>
 bif (decide (i<(a.length:Int)))then
 bA (((0:Int)<=i/\i<(a.length:Int))/\((0:Int)<=i/\i<(b.length:Int))) (
 bif (!((decide (((at' a i.toNat).bus)=((at' b i.toNat).bus))) && ((decide (((at' a i.toNat).kind)=((at' b i.toNat).kind))) && ((decide (((at' a i.toNat).power)=((at' b i.toNat).power))) && ((decide (((at' a i.toNat).br)=((at' b i.toNat).br))) && ((decide (((at' a i.toNat).ohm)=((at' b i.toNat).ohm))) && true))))))then
 some (.done (.ret false))
 else
 some (.next (IntKind.wrap .i64 (i+1))))
 else
 some (.done (.brk ()))
def kR (a:List Source) (b:List Source):Option Bool:=
 bif (!decide ((a.length:Int)=(b.length:Int)))then
 some false
 else
 Option.bind (aH (iU a b) FUEL (0)) fun o=>match o with
 | .ret v=>some v
 | .brk _=>
 some true
def jW (a:List aQ) (b:List aQ):Int->Option (bK Int (Ex Unit Bool)):=
 fun i=>
 bif (decide (i<(a.length:Int)))then
 bA (((0:Int)<=i/\i<(a.length:Int))/\((0:Int)<=i/\i<(b.length:Int))) (
 bif (!((decide (((at' a i.toNat).bp)=((at' b i.toNat).bp))) && ((decide (((at' a i.toNat).bi)=((at' b i.toNat).bi))) && true)))then
 some (.done (.ret false))
 else
 some (.next (IntKind.wrap .i64 (i+1))))
 else
 some (.done (.brk ()))
def mI (a:List aQ) (b:List aQ):Option Bool:=
 bif (!decide ((a.length:Int)=(b.length:Int)))then
 some false
 else
 Option.bind (aH (jW a b) FUEL (0)) fun o=>match o with
 | .ret v=>some v
 | .brk _=>
 some true
def nD (a:Link) (b:Link):Option Bool:=
 (bif gB [((bif (bif (bif (bif (decide (a.a=b.a))then(decide (a.b=b.b))else false)then(decide (a.kind=b.kind))else false)then(decide (a.most=b.most))else false)then(decide (a.ohm=b.ohm))else false),true)]then mI a.trip b.trip else some default).bind fun r_=>
 some (bif (bif (bif (bif (bif (decide (a.a=b.a))then(decide (a.b=b.b))else false)then(decide (a.kind=b.kind))else false)then(decide (a.most=b.most))else false)then(decide (a.ohm=b.ohm))else false)then r_ else false)
def jU (a:List Link) (b:List Link):Int->Option (bK Int (Ex Unit Bool)):=
 fun i=>
 bif (decide (i<(a.length:Int)))then
 (nD (at' a i.toNat) (at' b i.toNat)).bind fun r_=>
 bA (((0:Int)<=i/\i<(a.length:Int))/\((0:Int)<=i/\i<(b.length:Int))) (
 bif (!r_)then
 some (.done (.ret false))
 else
 some (.next (IntKind.wrap .i64 (i+1))))
 else
 some (.done (.brk ()))
def mF (a:List Link) (b:List Link):Option Bool:=
 bif (!decide ((a.length:Int)=(b.length:Int)))then
 some false
 else
 Option.bind (aH (jU a b) FUEL (0)) fun o=>match o with
 | .ret v=>some v
 | .brk _=>
 some true
def jX (a:List aF) (b:List aF):Int->Option (bK Int (Ex Unit Bool)):=
 fun i=>
 bif (decide (i<(a.length:Int)))then
 bA (((0:Int)<=i/\i<(a.length:Int))/\((0:Int)<=i/\i<(b.length:Int))) (
 bif (!((decide ((((at' a i.toNat).bh).e0)=(((at' b i.toNat).bh).e0))) && ((decide ((((at' a i.toNat).bh).e1)=(((at' b i.toNat).bh).e1))) && ((decide (((at' a i.toNat).power)=((at' b i.toNat).power))) && ((decide (((at' a i.toNat).bk)=((at' b i.toNat).bk))) && true)))))then
 some (.done (.ret false))
 else
 some (.next (IntKind.wrap .i64 (i+1))))
 else
 some (.done (.brk ()))
def mD (a:List aF) (b:List aF):Option Bool:=
 bif (!decide ((a.length:Int)=(b.length:Int)))then
 some false
 else
 Option.bind (aH (jX a b) FUEL (0)) fun o=>match o with
 | .ret v=>some v
 | .brk _=>
 some true
def iN (a:ah) (b:ah):Option Bool:=
 (bif gB [(decide (a.ae=b.ae),true)]then kR a.aa b.aa else some default).bind fun r_=>
 (bif gB [((bif (decide (a.ae=b.ae))then r_ else false),true)]then mF a.ac b.ac else some default).bind fun r_1=>
 (bif gB [((bif (bif (decide (a.ae=b.ae))then r_ else false)then r_1 else false),true)]then mD a.am b.am else some default).bind fun r_2=>
 some (bif (bif (bif (decide (a.ae=b.ae))then r_ else false)then r_1 else false)then r_2 else false)
def vV:Option ah:=
 some (⟨3,[(⟨0,1,500,0,20⟩:Source),(⟨2,2,300,0,40⟩:Source)],[(⟨0,1,3,400,10,[(⟨1000,400⟩:aQ),(⟨5000,50⟩:aQ)]⟩:Link),(⟨1,2,3,400,10,([]:List aQ)⟩:Link)],[(⟨(⟨1,-1⟩:aC),100,1⟩:aF)]⟩:ah)
def iE (p:ah) (s_:State):Int->Option (bK Int (Ex Unit Int)):=
 fun t55=>
 bif (decide (t55<([(⟨s_.a_,(p.ac.length:Int)⟩:dw),(⟨s_.ba,(p.ac.length:Int)⟩:dw),(⟨s_.aq,(p.ac.length:Int)⟩:dw),(⟨s_.on_,(p.aa.length:Int)⟩:dw),(⟨s_.ag,(p.aa.length:Int)⟩:dw),(⟨s_.aw,p.ae⟩:dw),(⟨s_.ap,p.ae⟩:dw)].length:Int)))then
 bA ((0:Int)<=t55/\t55<([(⟨s_.a_,(p.ac.length:Int)⟩:dw),(⟨s_.ba,(p.ac.length:Int)⟩:dw),(⟨s_.aq,(p.ac.length:Int)⟩:dw),(⟨s_.on_,(p.aa.length:Int)⟩:dw),(⟨s_.ag,(p.aa.length:Int)⟩:dw),(⟨s_.aw,p.ae⟩:dw),(⟨s_.ap,p.ae⟩:dw)].length:Int)) (
 bif (!decide ((((at' [(⟨s_.a_,(p.ac.length:Int)⟩:dw),(⟨s_.ba,(p.ac.length:Int)⟩:dw),(⟨s_.aq,(p.ac.length:Int)⟩:dw),(⟨s_.on_,(p.aa.length:Int)⟩:dw),(⟨s_.ag,(p.aa.length:Int)⟩:dw),(⟨s_.aw,p.ae⟩:dw),(⟨s_.ap,p.ae⟩:dw)] t55.toNat).l).length:Int)=((at' [(⟨s_.a_,(p.ac.length:Int)⟩:dw),(⟨s_.ba,(p.ac.length:Int)⟩:dw),(⟨s_.aq,(p.ac.length:Int)⟩:dw),(⟨s_.on_,(p.aa.length:Int)⟩:dw),(⟨s_.ag,(p.aa.length:Int)⟩:dw),(⟨s_.aw,p.ae⟩:dw),(⟨s_.ap,p.ae⟩:dw)] t55.toNat).n)))then
 some (.done (.ret 9))
 else
 some (.next (IntKind.wrap .i64 (t55+1))))
 else
 some (.done (.brk ()))
def iH (p:ah) (s_:State):Int->Option (bK Int (Ex Unit Int)):=
 fun t69=>
 bif (decide (t69<(p.ac.length:Int)))then
 bA ((0:Int)<=t69/\t69<(p.ac.length:Int)) (
 bA ((gB [(decide (((at' p.ac t69.toNat).kind)=1),true)]=true->(0:Int)<=t69/\t69<(s_.a_.length:Int))/\(gB [(!(at' s_.a_ t69.toNat),false),(decide (((at' p.ac t69.toNat).kind)=1),true)]=true->(0:Int)<=t69/\t69<(s_.ba.length:Int))) (
 bif (bif (decide (((at' p.ac t69.toNat).kind)=1))then(bif (!(at' s_.a_ t69.toNat))then true else(at' s_.ba t69.toNat))else false)then
 some (.done (.ret 9))
 else
 some (.next (IntKind.wrap .i64 (t69+1)))))
 else
 some (.done (.brk ()))
def bT (p:ah) (s_:State):Option Int:=
 (fI p).bind fun r_=>
 bif (!decide (r_=0))then
 some r_
 else
 Option.bind (aH (iE p s_) FUEL (0)) fun o=>match o with
 | .ret v=>some v
 | .brk _=>
 Option.bind (aH (iH p s_) FUEL (0)) fun o=>match o with
 | .ret v=>some v
 | .brk _=>
 some 0
def rA (p:ah) (s_:State):Option (Int × (List Source) × (List Link) × (List aF) × (List Bool) × (List Bool) × (List Bool) × (List Bool) × (List Bool) × (List Bool) × (List Bool)):=
 some (p.ae,p.aa,p.ac,p.am,s_.a_,s_.ba,s_.aq,s_.on_,s_.ag,s_.aw,s_.ap)
def tZ (g:aL):Int->Option (bK Int (Ex Unit Int)):=
 fun x1=>
 bif (!((bn fO x1 g.bj).isSome))then
 some (.done (.ret x1))
 else
 some (.next ((bn fO x1 g.bj).getD 0))
def dP (g:aL) (x:Int):Option Int:=
 Option.bind (aH (tZ g) FUEL (x)) fun o=>match o with
 | .ret v=>some v
 | .brk _=>none
def qf (g:aL) (a:Int) (b:Int):Option (List (Int × Int)):=
 (dP g a).bind fun r_=>
 (dP g b).bind fun r_1=>
 bif (!decide (r_=r_1))then
 some (aD fO r_ r_1 g.bj)
 else
 some g.bj
def lg (x22:Int) (x221:Int) (x222:Int) (x223:Int) (x224:Int) (x225:List aQ) (o_:aL):Option aL:=
 (qf o_ x22 x221).bind fun r_=>
 some (⟨r_⟩:aL)
def uE (x12:List Link) (x2:List Bool) (x22:List Bool) (x26:List Bool):((List (Int × Int)) × Int)->Option (bK ((List (Int × Int)) × Int) (Ex (List (Int × Int)) aL)):=
 fun zz=>match zz with
 |(o0,t9)=>
 bif (decide (t9<(x12.length:Int)))then
 bA ((0:Int)<=t9/\t9<(x12.length:Int)) (
 bif (bif (bif (bif (at' x2 t9.toNat)then(!(at' x22 t9.toNat))else false)then(!(at' x26 (((at' x12 t9.toNat).a).toNat)))else false)then(!(at' x26 (((at' x12 t9.toNat).b).toNat)))else false)then
 (lg ((at' x12 t9.toNat).a) ((at' x12 t9.toNat).b) ((at' x12 t9.toNat).kind) ((at' x12 t9.toNat).most) ((at' x12 t9.toNat).ohm) ((at' x12 t9.toNat).trip) (⟨o0⟩:aL)).bind fun r_=>
 bA (((0:Int)<=t9/\t9<(x2.length:Int))/\(gB [(at' x2 t9.toNat,true)]=true->(0:Int)<=t9/\t9<(x22.length:Int))/\(gB [((bif (at' x2 t9.toNat)then(!(at' x22 t9.toNat))else false),true)]=true->(0:Int)<=(at' x12 t9.toNat).a/\(at' x12 t9.toNat).a<(x26.length:Int))/\(gB [((bif (bif (at' x2 t9.toNat)then(!(at' x22 t9.toNat))else false)then(!(at' x26 (((at' x12 t9.toNat).a).toNat)))else false),true)]=true->(0:Int)<=(at' x12 t9.toNat).b/\(at' x12 t9.toNat).b<(x26.length:Int))) (
 some (.next (r_.bj,IntKind.wrap .i64 (t9+1))))
 else
 bA (((0:Int)<=t9/\t9<(x2.length:Int))/\(gB [(at' x2 t9.toNat,true)]=true->(0:Int)<=t9/\t9<(x22.length:Int))/\(gB [((bif (at' x2 t9.toNat)then(!(at' x22 t9.toNat))else false),true)]=true->(0:Int)<=(at' x12 t9.toNat).a/\(at' x12 t9.toNat).a<(x26.length:Int))/\(gB [((bif (bif (at' x2 t9.toNat)then(!(at' x22 t9.toNat))else false)then(!(at' x26 (((at' x12 t9.toNat).a).toNat)))else false),true)]=true->(0:Int)<=(at' x12 t9.toNat).b/\(at' x12 t9.toNat).b<(x26.length:Int))) (
 some (.next (o0,IntKind.wrap .i64 (t9+1)))))
 else
 some (.done (.brk o0))
def pU (x1:Int) (x11:List Source) (x12:List Link) (x13:List aF) (x2:List Bool) (x21:List Bool) (x22:List Bool) (x23:List Bool) (x24:List Bool) (x25:List Bool) (x26:List Bool) (o_:aL):Option aL:=
 Option.bind (aH (uE x12 x2 x22 x26) FUEL (o_.bj,0)) fun o=>match o with
 | .ret v=>some v
 | .brk o01=>
 some (⟨o01⟩:aL)
def zR (p:ah) (s_:State) (r_1:aL):((List aj) × (List (Int × Int)) × Int)->Option (bK ((List aj) × (List (Int × Int)) × Int) (Ex ((List aj) × (List (Int × Int))) (List aj))):=
 fun zz=>match zz with
 |(out,at_,t32)=>
 bif (decide (t32<p.ae))then
 bA ((0:Int)<=t32/\t32<(s_.ap.length:Int)) (
 bif (at' s_.ap t32.toNat)then
 some (.next (out,at_,IntKind.wrap .i64 (t32+1)))
 else
 (dP r_1 t32).bind fun r_2=>
 bif (!((bn fO r_2 at_).isSome))then
 bA (((out.length+[(⟨([]:List Int),([]:List Int)⟩:aj)].length)*48<=140737488355328)/\(out.length+[(⟨([]:List Int),([]:List Int)⟩:aj)].length<=4611686018427387904)) (
 bA (((0:Int)<=((bn fO r_2 (aD fO r_2 (out.length:Int) at_)).getD 0)/\((bn fO r_2 (aD fO r_2 (out.length:Int) at_)).getD 0)<((out++[(⟨([]:List Int),([]:List Int)⟩:aj)]).length:Int))/\((((at' (out++[(⟨([]:List Int),([]:List Int)⟩:aj)]) (((bn fO r_2 (aD fO r_2 (out.length:Int) at_)).getD 0).toNat)).ae).length+[t32].length)*8<=140737488355328)/\(((at' (out++[(⟨([]:List Int),([]:List Int)⟩:aj)]) (((bn fO r_2 (aD fO r_2 (out.length:Int) at_)).getD 0).toNat)).ae).length+[t32].length<=4611686018427387904)) (
 some (.next ((out++[(⟨([]:List Int),([]:List Int)⟩:aj)]).set (((bn fO r_2 (aD fO r_2 (out.length:Int) at_)).getD 0).toNat) (⟨((at' (out++[(⟨([]:List Int),([]:List Int)⟩:aj)]) (((bn fO r_2 (aD fO r_2 (out.length:Int) at_)).getD 0).toNat)).ae)++[t32],(at' (out++[(⟨([]:List Int),([]:List Int)⟩:aj)]) (((bn fO r_2 (aD fO r_2 (out.length:Int) at_)).getD 0).toNat)).aa⟩:aj),aD fO r_2 (out.length:Int) at_,IntKind.wrap .i64 (t32+1)))))
 else
 bA (((0:Int)<=((bn fO r_2 at_).getD 0)/\((bn fO r_2 at_).getD 0)<(out.length:Int))/\((((at' out (((bn fO r_2 at_).getD 0).toNat)).ae).length+[t32].length)*8<=140737488355328)/\(((at' out (((bn fO r_2 at_).getD 0).toNat)).ae).length+[t32].length<=4611686018427387904)) (
 some (.next (out.set (((bn fO r_2 at_).getD 0).toNat) (⟨((at' out (((bn fO r_2 at_).getD 0).toNat)).ae)++[t32],(at' out (((bn fO r_2 at_).getD 0).toNat)).aa⟩:aj),at_,IntKind.wrap .i64 (t32+1)))))
 else
 some (.done (.brk (out,at_)))
def Au (p:ah) (s_:State) (r_1:aL) (at_1:List (Int × Int)):((List aj) × Int)->Option (bK ((List aj) × Int) (Ex (List aj) (List aj))):=
 fun zz=>match zz with
 |(out2,t78)=>
 bif (decide (t78<(p.aa.length:Int)))then
 bA ((0:Int)<=t78/\t78<(p.aa.length:Int)) (
 bA (((0:Int)<=t78/\t78<(s_.on_.length:Int))/\(gB [(at' s_.on_ t78.toNat,true)]=true->(0:Int)<=t78/\t78<(s_.ag.length:Int))/\(gB [((bif (at' s_.on_ t78.toNat)then(!(at' s_.ag t78.toNat))else false),true)]=true->(0:Int)<=(at' p.aa t78.toNat).bus/\(at' p.aa t78.toNat).bus<(s_.ap.length:Int))) (
 bif (bif (bif (at' s_.on_ t78.toNat)then(!(at' s_.ag t78.toNat))else false)then(!(at' s_.ap (((at' p.aa t78.toNat).bus).toNat)))else false)then
 (dP r_1 ((at' p.aa t78.toNat).bus)).bind fun r_3=>
 bA (((0:Int)<=((bn fO r_3 at_1).getD 0)/\((bn fO r_3 at_1).getD 0)<(out2.length:Int))/\((((at' out2 (((bn fO r_3 at_1).getD 0).toNat)).aa).length+[t78].length)*8<=140737488355328)/\(((at' out2 (((bn fO r_3 at_1).getD 0).toNat)).aa).length+[t78].length<=4611686018427387904)) (
 some (.next (out2.set (((bn fO r_3 at_1).getD 0).toNat) (⟨(at' out2 (((bn fO r_3 at_1).getD 0).toNat)).ae,((at' out2 (((bn fO r_3 at_1).getD 0).toNat)).aa)++[t78]⟩:aj),IntKind.wrap .i64 (t78+1))))
 else
 some (.next (out2,IntKind.wrap .i64 (t78+1)))))
 else
 some (.done (.brk out2))
def mJ (p:ah) (s_:State):Option (List aj):=
 (rA p s_).bind fun r_=>
 (pU r_.1 r_.2.1 r_.2.2.1 r_.2.2.2.1 r_.2.2.2.2.1 r_.2.2.2.2.2.1 r_.2.2.2.2.2.2.1 r_.2.2.2.2.2.2.2.1 r_.2.2.2.2.2.2.2.2.1 r_.2.2.2.2.2.2.2.2.2.1 r_.2.2.2.2.2.2.2.2.2.2 (⟨([]:(List (Int × Int)))⟩:aL)).bind fun r_1=>
 Option.bind (aH (zR p s_ r_1) FUEL (([]:List aj),([]:(List (Int × Int))),0)) fun o=>match o with
 | .ret v=>some v
 | .brk (out1,at_1)=>
 Option.bind (aH (Au p s_ r_1 at_1) FUEL (out1,0)) fun o=>match o with
 | .ret v=>some v
 | .brk out3=>
 some out3
def vU (p:ah) (s_:State):Option ((List aj) × Int):=
 (bT p s_).bind fun r_=>
 bif (!decide (r_=0))then
 some (([]:List aj),r_)
 else
 (mJ p s_).bind fun r_1=>
 some (r_1,0)
def dU (x y:aC):Int:=if x.e0<y.e0 then -1 else if y.e0<x.e0 then 1 else if x.e1<y.e1 then -1 else if y.e1<x.e1 then 1 else 0
def sF (s:List aC):Option (List aC):=match s with
 |[]=>some []
 |x::xs=>bif decide ((x::xs).length<4611686018427387904)then some ((x::xs).mergeSort fun x y=> !decide (dU y x<0))else none
def zO (p:ah) (r_1:List aj) (t24:Int) (t31:Int):((List aC) × Int)->Option (bK ((List aC) × Int) (Ex (List aC) (bK ((List aC) × Int) (Ex (List aC) (bK ((List aC) × Int) (Ex (List aC) ((List aC) × Int))))))):=
 fun zz=>match zz with
 |(out4,t42)=>
 bif (decide (t42<(((((at' r_1 t24.toNat).aa).length - ((IntKind.wrap .i64 (t31+1)).toNat)):Nat):Int)))then
 bA ((0:Int)<=t42/\t42<((((at' r_1 t24.toNat).aa).drop ((IntKind.wrap .i64 (t31+1)).toNat)).length:Int)) (
 bA (((0:Int)<=(at' ((at' r_1 t24.toNat).aa) t31.toNat)/\(at' ((at' r_1 t24.toNat).aa) t31.toNat)<(p.aa.length:Int))/\(gB [(decide (((at' p.aa ((at' ((at' r_1 t24.toNat).aa) t31.toNat).toNat)).br)=0),false)]=true->(0:Int)<=(at' ((at' r_1 t24.toNat).aa) t31.toNat)/\(at' ((at' r_1 t24.toNat).aa) t31.toNat)<(p.aa.length:Int))/\(gB [(decide (((at' p.aa ((at' ((at' r_1 t24.toNat).aa) t31.toNat).toNat)).br)=0),false)]=true->(0:Int)<=(at' (((at' r_1 t24.toNat).aa).drop ((IntKind.wrap .i64 (t31+1)).toNat)) t42.toNat)/\(at' (((at' r_1 t24.toNat).aa).drop ((IntKind.wrap .i64 (t31+1)).toNat)) t42.toNat)<(p.aa.length:Int))) (
 bif (bif (decide (((at' p.aa ((at' ((at' r_1 t24.toNat).aa) t31.toNat).toNat)).br)=0))then true else(!decide (((at' p.aa ((at' ((at' r_1 t24.toNat).aa) t31.toNat).toNat)).br)=((at' p.aa ((at' (((at' r_1 t24.toNat).aa).drop ((IntKind.wrap .i64 (t31+1)).toNat)) t42.toNat).toNat)).br))))then
 bA (((out4.length+[(⟨at' ((at' r_1 t24.toNat).aa) t31.toNat,at' (((at' r_1 t24.toNat).aa).drop ((IntKind.wrap .i64 (t31+1)).toNat)) t42.toNat⟩:aC)].length)*16<=140737488355328)/\(out4.length+[(⟨at' ((at' r_1 t24.toNat).aa) t31.toNat,at' (((at' r_1 t24.toNat).aa).drop ((IntKind.wrap .i64 (t31+1)).toNat)) t42.toNat⟩:aC)].length<=4611686018427387904)) (
 some (.next (out4++[(⟨at' ((at' r_1 t24.toNat).aa) t31.toNat,at' (((at' r_1 t24.toNat).aa).drop ((IntKind.wrap .i64 (t31+1)).toNat)) t42.toNat⟩:aC)],IntKind.wrap .i64 (t42+1))))
 else
 some (.next (out4,IntKind.wrap .i64 (t42+1)))))
 else
 some (.done (.brk out4))
def Ad (p:ah) (r_1:List aj) (t24:Int):((List aC) × Int)->Option (bK ((List aC) × Int) (Ex (List aC) (bK ((List aC) × Int) (Ex (List aC) ((List aC) × Int))))):=
 fun zz=>match zz with
 |(out2,t31)=>
 bif (decide (t31<(((at' r_1 t24.toNat).aa).length:Int)))then
 bA ((0:Int)<=t31/\t31<(((at' r_1 t24.toNat).aa).length:Int)) (
 bA ((0:Int)<=(IntKind.wrap .i64 (t31+1))/\(IntKind.wrap .i64 (t31+1))<=(((at' r_1 t24.toNat).aa).length:Int)) (
 Option.bind (aH (zO p r_1 t24 t31) FUEL (out2,0)) fun o=>match o with
 | .ret v=>some v
 | .brk out5=>
 some (.next (out5,IntKind.wrap .i64 (t31+1)))))
 else
 some (.done (.brk out2))
def Ab (p:ah) (r_1:List aj):((List aC) × Int)->Option (bK ((List aC) × Int) (Ex (List aC) ((List aC) × Int))):=
 fun zz=>match zz with
 |(out,t24)=>
 bif (decide (t24<(r_1.length:Int)))then
 bA ((0:Int)<=t24/\t24<(r_1.length:Int)) (
 Option.bind (aH (Ad p r_1 t24) FUEL (out,0)) fun o=>match o with
 | .ret v=>some v
 | .brk out3=>
 some (.next (out3,IntKind.wrap .i64 (t24+1))))
 else
 some (.done (.brk out))
def vG (p:ah) (s_:State):Option ((List aC) × Int):=
 (bT p s_).bind fun r_=>
 bif (!decide (r_=0))then
 some (([]:List aC),r_)
 else
 (mJ p s_).bind fun r_1=>
 Option.bind (aH (Ab p r_1) FUEL (([]:List aC),0)) fun o=>match o with
 | .ret v=>some v
 | .brk out1=>
 (sF out1).bind fun r_2=>
 bA (out1.length=r_2.length) (
 some (r_2,0))
def BX (a:List Int) (b:List Int):Int->Option (bK Int (Ex Unit Bool)):=
 fun i=>
 bif (decide (i<(a.length:Int)))then
 bA (((0:Int)<=i/\i<(a.length:Int))/\((0:Int)<=i/\i<(b.length:Int))) (
 bif (!decide ((at' a i.toNat)=(at' b i.toNat)))then
 some (.done (.ret false))
 else
 some (.next (IntKind.wrap .i64 (i+1))))
 else
 some (.done (.brk ()))
def qF (a:List Int) (b:List Int):Option Bool:=
 bif (!decide ((a.length:Int)=(b.length:Int)))then
 some false
 else
 Option.bind (aH (BX a b) FUEL (0)) fun o=>match o with
 | .ret v=>some v
 | .brk _=>
 some true
def uX (a:List aj) (b:List aj):Int->Option (bK Int (Ex Unit Bool)):=
 fun i=>
 bif (decide (i<(a.length:Int)))then
 (qF ((at' a i.toNat).ae) ((at' b i.toNat).ae)).bind fun r_=>
 (bif gB [(!r_,false)]then qF ((at' a i.toNat).aa) ((at' b i.toNat).aa)else some default).bind fun r_1=>
 bA (((0:Int)<=i/\i<(a.length:Int))/\((0:Int)<=i/\i<(b.length:Int))/\(gB [(!r_,false)]=true->(0:Int)<=i/\i<(a.length:Int))/\(gB [(!r_,false)]=true->(0:Int)<=i/\i<(b.length:Int))) (
 bif (bif (!r_)then true else(!r_1))then
 some (.done (.ret false))
 else
 some (.next (IntKind.wrap .i64 (i+1))))
 else
 some (.done (.brk ()))
def lX (a:List aj) (b:List aj):Option Bool:=
 bif (!decide ((a.length:Int)=(b.length:Int)))then
 some false
 else
 Option.bind (aH (uX a b) FUEL (0)) fun o=>match o with
 | .ret v=>some v
 | .brk _=>
 some true
def xL (a:List aC) (b:List aC):Int->Option (bK Int (Ex Unit Bool)):=
 fun i=>
 bif (decide (i<(a.length:Int)))then
 bA (((0:Int)<=i/\i<(a.length:Int))/\((0:Int)<=i/\i<(b.length:Int))) (
 bif (!((decide (((at' a i.toNat).e0)=((at' b i.toNat).e0))) && ((decide (((at' a i.toNat).e1)=((at' b i.toNat).e1))) && true)))then
 some (.done (.ret false))
 else
 some (.next (IntKind.wrap .i64 (i+1))))
 else
 some (.done (.brk ()))
def rZ (a:List aC) (b:List aC):Option Bool:=
 bif (!decide ((a.length:Int)=(b.length:Int)))then
 some false
 else
 Option.bind (aH (xL a b) FUEL (0)) fun o=>match o with
 | .ret v=>some v
 | .brk _=>
 some true
def VG:DV->Int
 | .int _ n=>n
 |_=>0
def fmtS (p:ah) (i j:Nat):Int:=VG (Source.cell (at' p.aa i) j)
def OQ (p:ah) (i j:Nat):Int:=VG (Link.cell (at' p.ac i) j)
def LB (p:ah) (i:Nat):Nat:=(at' p.ac i).trip.length
def OL (p:ah) (i j:Nat):Int:=VG (aF.cell (at' p.am i) j)
def OI (p:ah) (i g j:Nat):Int:=VG (aQ.cell (at' (at' p.ac i).trip g) j)
def Ui (p:ah):List UInt8:=NH p.ae p.aa.length p.ac.length p.am.length (fmtS p) (OQ p) (OL p) (LB p) (OI p)
def eT (p:ah):Option (ByteArray × Int):=
 (fI p).bind fun c=>bif decide (c=0)then(bif fmtG p.ae p.aa.length p.ac.length p.am.length (fmtS p) (OQ p) (OL p) (LB p) (OI p)then some (sb (Ui p),0)else none)else some (⟨#[]⟩,c)
def dX (n:Int):Option (List Bool):=
 bA (((0:Int)<=n)/\((1:Int)*n<=281474976710656)/\((n:Int)<=9223372036854775807)) (
 some (List.replicate n.toNat (false:Bool)))
def Az (p:ah):((List Bool) × Int)->Option (bK ((List Bool) × Int) (Ex (List Bool) (State × Int))):=
 fun zz=>match zz with
 |(s0,t50)=>
 bif (decide (t50<(p.ac.length:Int)))then
 bA ((0:Int)<=t50/\t50<(p.ac.length:Int)) (
 bA ((0:Int)<=t50/\t50<(s0.length:Int)) (
 some (.next (s0.set t50.toNat (decide (((at' p.ac t50.toNat).kind)=1)),IntKind.wrap .i64 (t50+1)))))
 else
 some (.done (.brk s0))
def vX (p:ah):Option (State × Int):=
 (fI p).bind fun r_=>
 bif (!decide (r_=0))then
 some ((⟨([]:List Bool),([]:List Bool),([]:List Bool),([]:List Bool),([]:List Bool),([]:List Bool),([]:List Bool)⟩:State),r_)
 else
 (dX (p.ac.length:Int)).bind fun r_1=>
 (dX (p.ac.length:Int)).bind fun r_2=>
 (dX (p.ac.length:Int)).bind fun r_3=>
 (dX (p.aa.length:Int)).bind fun r_4=>
 (dX (p.aa.length:Int)).bind fun r_5=>
 (dX p.ae).bind fun r_6=>
 (dX p.ae).bind fun r_7=>
 Option.bind (aH (Az p) FUEL (r_1,0)) fun o=>match o with
 | .ret v=>some v
 | .brk s01=>
 some ((⟨s01,r_2,r_3,r_4,r_5,r_6,r_7⟩:State),0)
def Ew (r_1:List aj) (t25:Int):((List Bool) × Int)->Option (bK ((List Bool) × Int) (Ex (List Bool) (bK ((List Bool) × Int) (Ex (List Bool) ((List Bool) × Int))))):=
 fun zz=>match zz with
 |(out2,t32)=>
 bif (decide (t32<(((at' r_1 t25.toNat).ae).length:Int)))then
 bA ((0:Int)<=t32/\t32<(((at' r_1 t25.toNat).ae).length:Int)) (
 bA ((0:Int)<=(at' ((at' r_1 t25.toNat).ae) t32.toNat)/\(at' ((at' r_1 t25.toNat).ae) t32.toNat)<(out2.length:Int)) (
 some (.next (out2.set ((at' ((at' r_1 t25.toNat).ae) t32.toNat).toNat) (decide (0<(((at' r_1 t25.toNat).aa).length:Int))),IntKind.wrap .i64 (t32+1)))))
 else
 some (.done (.brk out2))
def El (r_1:List aj):((List Bool) × Int)->Option (bK ((List Bool) × Int) (Ex (List Bool) ((List Bool) × Int))):=
 fun zz=>match zz with
 |(out,t25)=>
 bif (decide (t25<(r_1.length:Int)))then
 bA ((0:Int)<=t25/\t25<(r_1.length:Int)) (
 Option.bind (aH (Ew r_1 t25) FUEL (out,0)) fun o=>match o with
 | .ret v=>some v
 | .brk out3=>
 some (.next (out3,IntKind.wrap .i64 (t25+1))))
 else
 some (.done (.brk out))
def BB (p:ah) (s_:State):Option ((List Bool) × Int):=
 (bT p s_).bind fun r_=>
 bif (!decide (r_=0))then
 some (([]:List Bool),r_)
 else
 bA (((0:Int)<=p.ae)/\((1:Int)*p.ae<=281474976710656)/\((p.ae:Int)<=9223372036854775807)) (
 (mJ p s_).bind fun r_1=>
 Option.bind (aH (El r_1) FUEL (List.replicate p.ae.toNat (false:Bool),0)) fun o=>match o with
 | .ret v=>some v
 | .brk out1=>
 some (out1,0))
def Gs (p:ah) (r_:(List Bool) × Int):((List aX) × Int)->Option (bK ((List aX) × Int) (Ex (List aX) ((List aX) × Int))):=
 fun zz=>match zz with
 |(out,t26)=>
 bif (decide (t26<(p.am.length:Int)))then
 bA ((0:Int)<=t26/\t26<(p.am.length:Int)) (
 bA (gB [(decide (0<=(((at' p.am t26.toNat).bh).e0)),true)]=true->(0:Int)<=((at' p.am t26.toNat).bh).e0/\((at' p.am t26.toNat).bh).e0<(r_.1.length:Int)) (
 bA (gB [(decide (0<=(((at' p.am t26.toNat).bh).e1)),true)]=true->(0:Int)<=((at' p.am t26.toNat).bh).e1/\((at' p.am t26.toNat).bh).e1<(r_.1.length:Int)) (
 bA (((out.length+[(⟨(bif (decide (0<=(((at' p.am t26.toNat).bh).e0)))then(at' r_.1 ((((at' p.am t26.toNat).bh).e0).toNat))else false),(bif (decide (0<=(((at' p.am t26.toNat).bh).e1)))then(at' r_.1 ((((at' p.am t26.toNat).bh).e1).toNat))else false)⟩:aX)].length)*2<=140737488355328)/\(out.length+[(⟨(bif (decide (0<=(((at' p.am t26.toNat).bh).e0)))then(at' r_.1 ((((at' p.am t26.toNat).bh).e0).toNat))else false),(bif (decide (0<=(((at' p.am t26.toNat).bh).e1)))then(at' r_.1 ((((at' p.am t26.toNat).bh).e1).toNat))else false)⟩:aX)].length<=4611686018427387904)) (
 some (.next (out++[(⟨(bif (decide (0<=(((at' p.am t26.toNat).bh).e0)))then(at' r_.1 ((((at' p.am t26.toNat).bh).e0).toNat))else false),(bif (decide (0<=(((at' p.am t26.toNat).bh).e1)))then(at' r_.1 ((((at' p.am t26.toNat).bh).e1).toNat))else false)⟩:aX)],IntKind.wrap .i64 (t26+1)))))))
 else
 some (.done (.brk out))
def DT (p:ah) (s_:State):Option ((List aX) × Int):=
 (BB p s_).bind fun r_=>
 bif (!decide (r_.2=0))then
 some (([]:List aX),r_.2)
 else
 Option.bind (aH (Gs p r_) FUEL (([]:List aX),0)) fun o=>match o with
 | .ret v=>some v
 | .brk out1=>
 some (out1,0)
def yA (s_:List Bool) (s_nn:Bool):Option (List Bool):=
 bif (!s_nn)then
 some ([]:List Bool)
 else
 bA (((([]:List Bool).length+s_.length)*1<=140737488355328)/\(([]:List Bool).length+s_.length<=4611686018427387904)) (
 some (([]:List Bool)++s_))
def eu (s:List Bool):Option (List Bool):=yA s true
def xN (s_:State):Option State:=
 bA ((0:Int)<=0/\0<(7:Int)) (
 (eu s_.a_).bind fun r_=>
 bA ((0:Int)<=1/\1<(7:Int)) (
 (eu s_.ba).bind fun r_1=>
 bA ((0:Int)<=2/\2<(7:Int)) (
 (eu s_.aq).bind fun r_2=>
 bA ((0:Int)<=3/\3<(7:Int)) (
 (eu s_.on_).bind fun r_3=>
 bA ((0:Int)<=4/\4<(7:Int)) (
 (eu s_.ag).bind fun r_4=>
 bA ((0:Int)<=5/\5<(7:Int)) (
 (eu s_.aw).bind fun r_5=>
 bA ((0:Int)<=6/\6<(7:Int)) (
 (eu s_.ap).bind fun r_6=>
 some (⟨r_,r_1,r_2,r_3,r_4,r_5,r_6⟩:State))))))))
def xC (p:ah) (s_:State) (x:Part) (is:Bool):Option (State × Int):=
 (bT p s_).bind fun r_=>
 bif (!decide (r_=0))then
 some ((⟨([]:List Bool),([]:List Bool),([]:List Bool),([]:List Bool),([]:List Bool),([]:List Bool),([]:List Bool)⟩:State),r_)
 else
 (xN s_).bind fun r_1=>
 bif (fO x.kind 1)then
 (aU x.index 0 (IntKind.wrap .i64 ((r_1.ap.length:Int) - 1))).bind fun r_2=>
 bif (!r_2)then
 some ((⟨([]:List Bool),([]:List Bool),([]:List Bool),([]:List Bool),([]:List Bool),([]:List Bool),([]:List Bool)⟩:State),14)
 else
 bA ((0:Int)<=x.index/\x.index<(r_1.ap.length:Int)) (
 some ((⟨r_1.a_,r_1.ba,r_1.aq,r_1.on_,r_1.ag,r_1.aw,r_1.ap.set x.index.toNat is⟩:State),0))
 else
 bif (fO x.kind 2)then
 (aU x.index 0 (IntKind.wrap .i64 ((r_1.ag.length:Int) - 1))).bind fun r_3=>
 bif (!r_3)then
 some ((⟨([]:List Bool),([]:List Bool),([]:List Bool),([]:List Bool),([]:List Bool),([]:List Bool),([]:List Bool)⟩:State),14)
 else
 bA ((0:Int)<=x.index/\x.index<(r_1.ag.length:Int)) (
 some ((⟨r_1.a_,r_1.ba,r_1.aq,r_1.on_,r_1.ag.set x.index.toNat is,r_1.aw,r_1.ap⟩:State),0))
 else
 bif (fO x.kind 3)then
 (aU x.index 0 (IntKind.wrap .i64 ((r_1.aq.length:Int) - 1))).bind fun r_4=>
 bif (!r_4)then
 some ((⟨([]:List Bool),([]:List Bool),([]:List Bool),([]:List Bool),([]:List Bool),([]:List Bool),([]:List Bool)⟩:State),14)
 else
 bA ((0:Int)<=x.index/\x.index<(r_1.aq.length:Int)) (
 some ((⟨r_1.a_,r_1.ba,r_1.aq.set x.index.toNat is,r_1.on_,r_1.ag,r_1.aw,r_1.ap⟩:State),0))
 else
 (aU x.index 0 (-1)).bind fun r_5=>
 bif (!r_5)then
 some ((⟨([]:List Bool),([]:List Bool),([]:List Bool),([]:List Bool),([]:List Bool),([]:List Bool),([]:List Bool)⟩:State),14)
 else
 none
def sV (p:ah) (s_:State) (x:Part):Option (State × Int):=
 (xC p s_ x true).bind fun r_=>
 some (r_.1,r_.2)
def oz (p:ah) (s_:State):Option (Int × (List Source) × (List Link) × (List aF) × State):=
 some (p.ae,p.aa,p.ac,p.am,s_)
def rH (x12:List Link) (state:State):((List (Int × Int)) × Int)->Option (bK ((List (Int × Int)) × Int) (Ex (List (Int × Int)) aL)):=
 fun zz=>match zz with
 |(o0,t9)=>
 bif (decide (t9<(x12.length:Int)))then
 bA ((0:Int)<=t9/\t9<(x12.length:Int)) (
 bif (bif (bif (bif (at' state.a_ t9.toNat)then(!(at' state.aq t9.toNat))else false)then(!(at' state.ap (((at' x12 t9.toNat).a).toNat)))else false)then(!(at' state.ap (((at' x12 t9.toNat).b).toNat)))else false)then
 (lg ((at' x12 t9.toNat).a) ((at' x12 t9.toNat).b) ((at' x12 t9.toNat).kind) ((at' x12 t9.toNat).most) ((at' x12 t9.toNat).ohm) ((at' x12 t9.toNat).trip) (⟨o0⟩:aL)).bind fun r_=>
 bA (((0:Int)<=t9/\t9<(state.a_.length:Int))/\(gB [(at' state.a_ t9.toNat,true)]=true->(0:Int)<=t9/\t9<(state.aq.length:Int))/\(gB [((bif (at' state.a_ t9.toNat)then(!(at' state.aq t9.toNat))else false),true)]=true->(0:Int)<=(at' x12 t9.toNat).a/\(at' x12 t9.toNat).a<(state.ap.length:Int))/\(gB [((bif (bif (at' state.a_ t9.toNat)then(!(at' state.aq t9.toNat))else false)then(!(at' state.ap (((at' x12 t9.toNat).a).toNat)))else false),true)]=true->(0:Int)<=(at' x12 t9.toNat).b/\(at' x12 t9.toNat).b<(state.ap.length:Int))) (
 some (.next (r_.bj,IntKind.wrap .i64 (t9+1))))
 else
 bA (((0:Int)<=t9/\t9<(state.a_.length:Int))/\(gB [(at' state.a_ t9.toNat,true)]=true->(0:Int)<=t9/\t9<(state.aq.length:Int))/\(gB [((bif (at' state.a_ t9.toNat)then(!(at' state.aq t9.toNat))else false),true)]=true->(0:Int)<=(at' x12 t9.toNat).a/\(at' x12 t9.toNat).a<(state.ap.length:Int))/\(gB [((bif (bif (at' state.a_ t9.toNat)then(!(at' state.aq t9.toNat))else false)then(!(at' state.ap (((at' x12 t9.toNat).a).toNat)))else false),true)]=true->(0:Int)<=(at' x12 t9.toNat).b/\(at' x12 t9.toNat).b<(state.ap.length:Int))) (
 some (.next (o0,IntKind.wrap .i64 (t9+1)))))
 else
 some (.done (.brk o0))
def mZ (x1:Int) (x11:List Source) (x12:List Link) (x13:List aF) (state:State) (o_:aL):Option aL:=
 Option.bind (aH (rH x12 state) FUEL (o_.bj,0)) fun o=>match o with
 | .ret v=>some v
 | .brk o01=>
 some (⟨o01⟩:aL)
def wJ (p:ah) (s_:State) (r_1:aL):((List aj) × (List (Int × Int)) × Int)->Option (bK ((List aj) × (List (Int × Int)) × Int) (Ex ((List aj) × (List (Int × Int))) (List aj))):=
 fun zz=>match zz with
 |(out,at_,t32)=>
 bif (decide (t32<p.ae))then
 bA ((0:Int)<=t32/\t32<(s_.ap.length:Int)) (
 bif (at' s_.ap t32.toNat)then
 some (.next (out,at_,IntKind.wrap .i64 (t32+1)))
 else
 (dP r_1 t32).bind fun r_2=>
 bif (!((bn fO r_2 at_).isSome))then
 bA (((out.length+[(⟨([]:List Int),([]:List Int)⟩:aj)].length)*48<=140737488355328)/\(out.length+[(⟨([]:List Int),([]:List Int)⟩:aj)].length<=4611686018427387904)) (
 bA (((0:Int)<=((bn fO r_2 (aD fO r_2 (out.length:Int) at_)).getD 0)/\((bn fO r_2 (aD fO r_2 (out.length:Int) at_)).getD 0)<((out++[(⟨([]:List Int),([]:List Int)⟩:aj)]).length:Int))/\((((at' (out++[(⟨([]:List Int),([]:List Int)⟩:aj)]) (((bn fO r_2 (aD fO r_2 (out.length:Int) at_)).getD 0).toNat)).ae).length+[t32].length)*8<=140737488355328)/\(((at' (out++[(⟨([]:List Int),([]:List Int)⟩:aj)]) (((bn fO r_2 (aD fO r_2 (out.length:Int) at_)).getD 0).toNat)).ae).length+[t32].length<=4611686018427387904)) (
 some (.next ((out++[(⟨([]:List Int),([]:List Int)⟩:aj)]).set (((bn fO r_2 (aD fO r_2 (out.length:Int) at_)).getD 0).toNat) (⟨((at' (out++[(⟨([]:List Int),([]:List Int)⟩:aj)]) (((bn fO r_2 (aD fO r_2 (out.length:Int) at_)).getD 0).toNat)).ae)++[t32],(at' (out++[(⟨([]:List Int),([]:List Int)⟩:aj)]) (((bn fO r_2 (aD fO r_2 (out.length:Int) at_)).getD 0).toNat)).aa⟩:aj),aD fO r_2 (out.length:Int) at_,IntKind.wrap .i64 (t32+1)))))
 else
 bA (((0:Int)<=((bn fO r_2 at_).getD 0)/\((bn fO r_2 at_).getD 0)<(out.length:Int))/\((((at' out (((bn fO r_2 at_).getD 0).toNat)).ae).length+[t32].length)*8<=140737488355328)/\(((at' out (((bn fO r_2 at_).getD 0).toNat)).ae).length+[t32].length<=4611686018427387904)) (
 some (.next (out.set (((bn fO r_2 at_).getD 0).toNat) (⟨((at' out (((bn fO r_2 at_).getD 0).toNat)).ae)++[t32],(at' out (((bn fO r_2 at_).getD 0).toNat)).aa⟩:aj),at_,IntKind.wrap .i64 (t32+1)))))
 else
 some (.done (.brk (out,at_)))
def wP (p:ah) (s_:State) (r_1:aL) (at_1:List (Int × Int)):((List aj) × Int)->Option (bK ((List aj) × Int) (Ex (List aj) (List aj))):=
 fun zz=>match zz with
 |(out2,t78)=>
 bif (decide (t78<(p.aa.length:Int)))then
 bA ((0:Int)<=t78/\t78<(p.aa.length:Int)) (
 bA (((0:Int)<=t78/\t78<(s_.on_.length:Int))/\(gB [(at' s_.on_ t78.toNat,true)]=true->(0:Int)<=t78/\t78<(s_.ag.length:Int))/\(gB [((bif (at' s_.on_ t78.toNat)then(!(at' s_.ag t78.toNat))else false),true)]=true->(0:Int)<=(at' p.aa t78.toNat).bus/\(at' p.aa t78.toNat).bus<(s_.ap.length:Int))) (
 bif (bif (bif (at' s_.on_ t78.toNat)then(!(at' s_.ag t78.toNat))else false)then(!(at' s_.ap (((at' p.aa t78.toNat).bus).toNat)))else false)then
 (dP r_1 ((at' p.aa t78.toNat).bus)).bind fun r_3=>
 bA (((0:Int)<=((bn fO r_3 at_1).getD 0)/\((bn fO r_3 at_1).getD 0)<(out2.length:Int))/\((((at' out2 (((bn fO r_3 at_1).getD 0).toNat)).aa).length+[t78].length)*8<=140737488355328)/\(((at' out2 (((bn fO r_3 at_1).getD 0).toNat)).aa).length+[t78].length<=4611686018427387904)) (
 some (.next (out2.set (((bn fO r_3 at_1).getD 0).toNat) (⟨(at' out2 (((bn fO r_3 at_1).getD 0).toNat)).ae,((at' out2 (((bn fO r_3 at_1).getD 0).toNat)).aa)++[t78]⟩:aj),IntKind.wrap .i64 (t78+1))))
 else
 some (.next (out2,IntKind.wrap .i64 (t78+1)))))
 else
 some (.done (.brk out2))
def mR (p:ah) (s_:State):Option (List aj):=
 (oz p s_).bind fun r_=>
 (mZ r_.1 r_.2.1 r_.2.2.1 r_.2.2.2.1 s_ (⟨([]:(List (Int × Int)))⟩:aL)).bind fun r_1=>
 Option.bind (aH (wJ p s_ r_1) FUEL (([]:List aj),([]:(List (Int × Int))),0)) fun o=>match o with
 | .ret v=>some v
 | .brk (out1,at_1)=>
 Option.bind (aH (wP p s_ r_1 at_1) FUEL (out1,0)) fun o=>match o with
 | .ret v=>some v
 | .brk out3=>
 some out3
def rq (p:ah) (s_:State):Option ((List aj) × Int):=
 (bT p s_).bind fun r_=>
 bif (!decide (r_=0))then
 some (([]:List aj),r_)
 else
 (mR p s_).bind fun r_1=>
 some (r_1,0)
def AL (r_1:List aj) (t25:Int):((List Bool) × Int)->Option (bK ((List Bool) × Int) (Ex (List Bool) (bK ((List Bool) × Int) (Ex (List Bool) ((List Bool) × Int))))):=
 fun zz=>match zz with
 |(out2,t32)=>
 bif (decide (t32<(((at' r_1 t25.toNat).ae).length:Int)))then
 bA ((0:Int)<=t32/\t32<(((at' r_1 t25.toNat).ae).length:Int)) (
 bA ((0:Int)<=(at' ((at' r_1 t25.toNat).ae) t32.toNat)/\(at' ((at' r_1 t25.toNat).ae) t32.toNat)<(out2.length:Int)) (
 some (.next (out2.set ((at' ((at' r_1 t25.toNat).ae) t32.toNat).toNat) (decide (0<(((at' r_1 t25.toNat).aa).length:Int))),IntKind.wrap .i64 (t32+1)))))
 else
 some (.done (.brk out2))
def zZ (r_1:List aj):((List Bool) × Int)->Option (bK ((List Bool) × Int) (Ex (List Bool) ((List Bool) × Int))):=
 fun zz=>match zz with
 |(out,t25)=>
 bif (decide (t25<(r_1.length:Int)))then
 bA ((0:Int)<=t25/\t25<(r_1.length:Int)) (
 Option.bind (aH (AL r_1 t25) FUEL (out,0)) fun o=>match o with
 | .ret v=>some v
 | .brk out3=>
 some (.next (out3,IntKind.wrap .i64 (t25+1))))
 else
 some (.done (.brk out))
def wu (p:ah) (s_:State):Option ((List Bool) × Int):=
 (bT p s_).bind fun r_=>
 bif (!decide (r_=0))then
 some (([]:List Bool),r_)
 else
 bA (((0:Int)<=p.ae)/\((1:Int)*p.ae<=281474976710656)/\((p.ae:Int)<=9223372036854775807)) (
 (mR p s_).bind fun r_1=>
 Option.bind (aH (zZ r_1) FUEL (List.replicate p.ae.toNat (false:Bool),0)) fun o=>match o with
 | .ret v=>some v
 | .brk out1=>
 some (out1,0))
def Bf (p:ah) (r_:(List Bool) × Int):((List aX) × Int)->Option (bK ((List aX) × Int) (Ex (List aX) ((List aX) × Int))):=
 fun zz=>match zz with
 |(out,t26)=>
 bif (decide (t26<(p.am.length:Int)))then
 bA ((0:Int)<=t26/\t26<(p.am.length:Int)) (
 bA (gB [(decide (0<=(((at' p.am t26.toNat).bh).e0)),true)]=true->(0:Int)<=((at' p.am t26.toNat).bh).e0/\((at' p.am t26.toNat).bh).e0<(r_.1.length:Int)) (
 bA (gB [(decide (0<=(((at' p.am t26.toNat).bh).e1)),true)]=true->(0:Int)<=((at' p.am t26.toNat).bh).e1/\((at' p.am t26.toNat).bh).e1<(r_.1.length:Int)) (
 bA (((out.length+[(⟨(bif (decide (0<=(((at' p.am t26.toNat).bh).e0)))then(at' r_.1 ((((at' p.am t26.toNat).bh).e0).toNat))else false),(bif (decide (0<=(((at' p.am t26.toNat).bh).e1)))then(at' r_.1 ((((at' p.am t26.toNat).bh).e1).toNat))else false)⟩:aX)].length)*2<=140737488355328)/\(out.length+[(⟨(bif (decide (0<=(((at' p.am t26.toNat).bh).e0)))then(at' r_.1 ((((at' p.am t26.toNat).bh).e0).toNat))else false),(bif (decide (0<=(((at' p.am t26.toNat).bh).e1)))then(at' r_.1 ((((at' p.am t26.toNat).bh).e1).toNat))else false)⟩:aX)].length<=4611686018427387904)) (
 some (.next (out++[(⟨(bif (decide (0<=(((at' p.am t26.toNat).bh).e0)))then(at' r_.1 ((((at' p.am t26.toNat).bh).e0).toNat))else false),(bif (decide (0<=(((at' p.am t26.toNat).bh).e1)))then(at' r_.1 ((((at' p.am t26.toNat).bh).e1).toNat))else false)⟩:aX)],IntKind.wrap .i64 (t26+1)))))))
 else
 some (.done (.brk out))
def xS (p:ah) (s_:State):Option ((List aX) × Int):=
 (wu p s_).bind fun r_=>
 bif (!decide (r_.2=0))then
 some (([]:List aX),r_.2)
 else
 Option.bind (aH (Bf p r_) FUEL (([]:List aX),0)) fun o=>match o with
 | .ret v=>some v
 | .brk out1=>
 some (out1,0)
def pz:Option Bool:=
 (vV).bind fun r_=>
 (vX r_).bind fun r_1=>
 bif (bif (bif (bif (!decide (r_1.2=0))then true else(!decide ((r_1.1.on_.length:Int)=2)))then true else(!decide ((r_1.1.a_.length:Int)=2)))then true else(!decide ((r_1.1.ap.length:Int)=3)))then
 some false
 else
 (rq r_ (⟨[true,false],r_1.1.ba,r_1.1.aq,[true,true],r_1.1.ag,r_1.1.aw,r_1.1.ap⟩:State)).bind fun r_2=>
 (xS r_ (⟨[true,false],r_1.1.ba,r_1.1.aq,[true,true],r_1.1.ag,r_1.1.aw,r_1.1.ap⟩:State)).bind fun r_3=>
 bif (bif (bif (bif (!decide (r_2.2=0))then true else(!decide (r_3.2=0)))then true else(!decide ((r_3.1.length:Int)=1)))then true else(!((at' r_3.1 0).e0)))then
 bA (gB [((bif (bif (!decide (r_2.2=0))then true else(!decide (r_3.2=0)))then true else(!decide ((r_3.1.length:Int)=1))),false)]=true->(0:Int)<=0/\0<(r_3.1.length:Int)) (
 some false)
 else
 (lX r_2.1 [(⟨[0,1],[0]⟩:aj),(⟨[2],[1]⟩:aj)]).bind fun r_4=>
 bA (gB [((bif (bif (!decide (r_2.2=0))then true else(!decide (r_3.2=0)))then true else(!decide ((r_3.1.length:Int)=1))),false)]=true->(0:Int)<=0/\0<(r_3.1.length:Int)) (
 bif (!r_4)then
 some false
 else
 bA ((0:Int)<=1/\1<([true,false].length:Int)) (
 (vG r_ (⟨[true,false].set 1 true,r_1.1.ba,r_1.1.aq,[true,true],r_1.1.ag,r_1.1.aw,r_1.1.ap⟩:State)).bind fun r_5=>
 (sV r_ (⟨[true,false].set 1 true,r_1.1.ba,r_1.1.aq,[true,true],r_1.1.ag,r_1.1.aw,r_1.1.ap⟩:State) (⟨3,0⟩:Part)).bind fun r_6=>
 (vU r_ r_6.1).bind fun r_7=>
 bif (bif (bif (!decide (r_5.2=0))then true else(!decide (r_6.2=0)))then true else(!decide (r_7.2=0)))then
 some false
 else
 (rZ r_5.1 [(⟨0,1⟩:aC)]).bind fun r_8=>
 bif (!r_8)then
 some false
 else
 (lX r_7.1 [(⟨[0],[0]⟩:aj),(⟨[1,2],[1]⟩:aj)]).bind fun r_9=>
 bif (!r_9)then
 some false
 else
 (sV r_ (⟨[true,false].set 1 true,r_1.1.ba,r_1.1.aq,[true,true],r_1.1.ag,r_1.1.aw,r_1.1.ap⟩:State) (⟨1,1⟩:Part)).bind fun r_10=>
 (DT r_ r_10.1).bind fun r_11=>
 (eT r_).bind fun r_12=>
 bA (gB [((bif (bif (bif (decide (r_10.2=0))then(decide (r_11.2=0))else false)then(decide (r_12.2=0))else false)then(decide ((r_11.1.length:Int)=1))else false),true)]=true->(0:Int)<=0/\0<(r_11.1.length:Int)) (
 some (bif (bif (bif (bif (bif (decide (r_10.2=0))then(decide (r_11.2=0))else false)then(decide (r_12.2=0))else false)then(decide ((r_11.1.length:Int)=1))else false)then(!((at' r_11.1 0).e0))else false)then((r_12.1:ByteArray).toList==(⟨#[112,108,97,110,116,32,51,10,115,111,117,114,99,101,32,48,32,103,114,105,100,32,53,48,48,32,48,32,50,48,10,115,111,117,114,99,101,32,50,32,103,101,110,101,114,97,116,111,114,32,51,48,48,32,48,32,52,48,10,108,105,110,107,32,48,32,49,32,98,114,101,97,107,101,114,32,52,48,48,32,49,48,32,49,48,48,48,58,52,48,48,32,53,48,48,48,58,53,48,10,108,105,110,107,32,49,32,50,32,98,114,101,97,107,101,114,32,52,48,48,32,49,48,10,114,97,99,107,32,49,32,45,49,32,49,48,48,32,49,10]⟩:ByteArray).toList)else false))))
def oh (p:ah):Int->Option (bK Int (Ex Unit Bool)):=
 fun i=>
 bif (decide (i<(p.ac.length:Int)))then
 bA ((0:Int)<=i/\i<(p.ac.length:Int)) (
 bif (decide (20<(((at' p.ac i.toNat).trip).length:Int)))then
 some (.done (.ret true))
 else
 some (.next (IntKind.wrap .i64 (i+1))))
 else
 some (.done (.brk ()))
def r9 (p:ah):Option Bool:=
 bif (bif (bif (decide (60<(p.aa.length:Int)))then true else(decide (60<(p.ac.length:Int))))then true else(decide (60<(p.am.length:Int))))then
 some true
 else
 Option.bind (aH (oh p) FUEL (0)) fun o=>match o with
 | .ret v=>some v
 | .brk _=>
 some false
def M8 (s:State):Nat->List Bool
 |0=>s.a_
 |1=>s.ba
 |2=>s.aq
 |3=>s.on_
 |4=>s.ag
 |5=>s.aw
 |_=>s.ap
def lT (s:State):Option ByteArray:=bif KW (M8 s)then some (nC (M8 s))else none
def gJ (p:ah) (s_:State):Option (ByteArray × Int):=
 (bT p s_).bind fun r_=>
 bif (!decide (r_=0))then
 some (⟨#[]⟩,r_)
 else
 (lT s_).bind fun r_1=>
 some (r_1,0)
def lN (p:ah) (s_:State):Int->Option (bK Int (Ex Unit Bool)):=
 fun i=>
 bif (decide (i<(p.ac.length:Int)))then
 bA (((0:Int)<=i/\i<(p.ac.length:Int))/\(gB [(decide (((at' p.ac i.toNat).kind)=1),true)]=true->(0:Int)<=i/\i<(s_.a_.length:Int))/\(gB [(!(at' s_.a_ i.toNat),false),(decide (((at' p.ac i.toNat).kind)=1),true)]=true->(0:Int)<=i/\i<(s_.ba.length:Int))) (
 bif (bif (decide (((at' p.ac i.toNat).kind)=1))then(bif (!(at' s_.a_ i.toNat))then true else(at' s_.ba i.toNat))else false)then
 some (.done (.ret false))
 else
 some (.next (IntKind.wrap .i64 (i+1))))
 else
 some (.done (.brk ()))
def l9 (p:ah) (s_:State):Option Bool:=
 bif (bif (bif (bif (bif (bif (bif (!decide ((s_.a_.length:Int)=(p.ac.length:Int)))then true else(!decide ((s_.ba.length:Int)=(p.ac.length:Int))))then true else(!decide ((s_.aq.length:Int)=(p.ac.length:Int))))then true else(!decide ((s_.on_.length:Int)=(p.aa.length:Int))))then true else(!decide ((s_.ag.length:Int)=(p.aa.length:Int))))then true else(!decide ((s_.aw.length:Int)=p.ae)))then true else(!decide ((s_.ap.length:Int)=p.ae)))then
 some false
 else
 Option.bind (aH (lN p s_) FUEL (0)) fun o=>match o with
 | .ret v=>some v
 | .brk _=>
 some true
def ko (p:ah) (s_:State):Option Int:=
 (gM p).bind fun r_=>
 (bif gB [(decide (r_=0),true)]then l9 p s_ else some default).bind fun r_1=>
 bif (bif (decide (r_=0))then(!r_1)else false)then
 some 9
 else
 some r_
def nR (l:List Bool):(ByteArray × Int)->Option (bK (ByteArray × Int) (Ex ByteArray ByteArray)):=
 fun zz=>match zz with
 |(t,i)=>
 bif (decide (i<(l.length:Int)))then
 bA ((0:Int)<=i/\i<(l.length:Int)) (
 bif (at' l i.toNat)then
 bA (t.size+(⟨#[49]⟩:ByteArray).size<=9223372036854775807) (
 some (.next (ax t ⟨#[49]⟩,IntKind.wrap .i64 (i+1))))
 else
 bA (t.size+(⟨#[48]⟩:ByteArray).size<=9223372036854775807) (
 some (.next (ax t ⟨#[48]⟩,IntKind.wrap .i64 (i+1)))))
 else
 some (.done (.brk t))
def gL (word:ByteArray) (l:List Bool):Option ByteArray:=
 bA (word.size+(⟨#[32]⟩:ByteArray).size<=9223372036854775807) (
 Option.bind (aH (nR l) FUEL (ax word ⟨#[32]⟩,0)) fun o=>match o with
 | .ret v=>some v
 | .brk t1=>
 bA (t1.size+(⟨#[10]⟩:ByteArray).size<=9223372036854775807) (
 some (ax t1 ⟨#[10]⟩)))
def nE (p:ah) (s_:State):Option (ByteArray × Int):=
 (ko p s_).bind fun r_=>
 bif (!decide (r_=0))then
 some (⟨#[]⟩,r_)
 else
 (gL ⟨#[111,110]⟩ s_.on_).bind fun r_1=>
 (gL ⟨#[98,97,100,115,111,117,114,99,101]⟩ s_.ag).bind fun r_2=>
 (gL ⟨#[99,108,111,115,101,100]⟩ s_.a_).bind fun r_3=>
 (gL ⟨#[108,111,99,107,101,100]⟩ s_.ba).bind fun r_4=>
 (gL ⟨#[98,97,100,108,105,110,107]⟩ s_.aq).bind fun r_5=>
 (gL ⟨#[101,97,114,116,104,101,100]⟩ s_.aw).bind fun r_6=>
 (gL ⟨#[98,97,100,98,117,115]⟩ s_.ap).bind fun r_7=>
 bA ((r_1.size+r_2.size<=9223372036854775807)/\((ax r_1 r_2).size+r_3.size<=9223372036854775807)/\((ax (ax r_1 r_2) r_3).size+r_4.size<=9223372036854775807)/\((ax (ax (ax r_1 r_2) r_3) r_4).size+r_5.size<=9223372036854775807)/\((ax (ax (ax (ax r_1 r_2) r_3) r_4) r_5).size+r_6.size<=9223372036854775807)/\((ax (ax (ax (ax (ax r_1 r_2) r_3) r_4) r_5) r_6).size+r_7.size<=9223372036854775807)) (
 some (ax (ax (ax (ax (ax (ax r_1 r_2) r_3) r_4) r_5) r_6) r_7,0))
def uO (state:State):Option (ByteArray × ByteArray × ByteArray × ByteArray × ByteArray × ByteArray × ByteArray):=
 some (⟨#[111,110]⟩,⟨#[98,97,100,115,111,117,114,99,101]⟩,⟨#[99,108,111,115,101,100]⟩,⟨#[108,111,99,107,101,100]⟩,⟨#[98,97,100,108,105,110,107]⟩,⟨#[101,97,114,116,104,101,100]⟩,⟨#[98,97,100,98,117,115]⟩)
def cO (r_3:ByteArray × ByteArray × Bool):((List Bool) × Int)->Option (bK ((List Bool) × Int) (Ex (List Bool) (List Bool))):=
 fun zz=>match zz with
 |(s31,t47)=>
 bif (decide (t47<((aJ r_3.2.1).length:Int)))then
 bA ((0:Int)<=t47/\t47<((aJ r_3.2.1).length:Int)) (
 bA (((s31.length+[decide ((at' (aJ r_3.2.1) t47.toNat)=49)].length)*1<=140737488355328)/\(s31.length+[decide ((at' (aJ r_3.2.1) t47.toNat)=49)].length<=4611686018427387904)) (
 some (.next (s31++[decide ((at' (aJ r_3.2.1) t47.toNat)=49)],IntKind.wrap .i64 (t47+1)))))
 else
 some (.done (.brk s31))
def vK (r_4:ByteArray × ByteArray × Bool):((List Bool) × Int)->Option (bK ((List Bool) × Int) (Ex (List Bool) (List Bool))):=
 fun zz=>match zz with
 |(s41,t471)=>
 bif (decide (t471<((aJ r_4.2.1).length:Int)))then
 bA ((0:Int)<=t471/\t471<((aJ r_4.2.1).length:Int)) (
 bA (((s41.length+[decide ((at' (aJ r_4.2.1) t471.toNat)=49)].length)*1<=140737488355328)/\(s41.length+[decide ((at' (aJ r_4.2.1) t471.toNat)=49)].length<=4611686018427387904)) (
 some (.next (s41++[decide ((at' (aJ r_4.2.1) t471.toNat)=49)],IntKind.wrap .i64 (t471+1)))))
 else
 some (.done (.brk s41))
def vQ (r_5:ByteArray × ByteArray × Bool):((List Bool) × Int)->Option (bK ((List Bool) × Int) (Ex (List Bool) (List Bool))):=
 fun zz=>match zz with
 |(s01,t472)=>
 bif (decide (t472<((aJ r_5.2.1).length:Int)))then
 bA ((0:Int)<=t472/\t472<((aJ r_5.2.1).length:Int)) (
 bA (((s01.length+[decide ((at' (aJ r_5.2.1) t472.toNat)=49)].length)*1<=140737488355328)/\(s01.length+[decide ((at' (aJ r_5.2.1) t472.toNat)=49)].length<=4611686018427387904)) (
 some (.next (s01++[decide ((at' (aJ r_5.2.1) t472.toNat)=49)],IntKind.wrap .i64 (t472+1)))))
 else
 some (.done (.brk s01))
def wz (r_6:ByteArray × ByteArray × Bool):((List Bool) × Int)->Option (bK ((List Bool) × Int) (Ex (List Bool) (List Bool))):=
 fun zz=>match zz with
 |(s11,t473)=>
 bif (decide (t473<((aJ r_6.2.1).length:Int)))then
 bA ((0:Int)<=t473/\t473<((aJ r_6.2.1).length:Int)) (
 bA (((s11.length+[decide ((at' (aJ r_6.2.1) t473.toNat)=49)].length)*1<=140737488355328)/\(s11.length+[decide ((at' (aJ r_6.2.1) t473.toNat)=49)].length<=4611686018427387904)) (
 some (.next (s11++[decide ((at' (aJ r_6.2.1) t473.toNat)=49)],IntKind.wrap .i64 (t473+1)))))
 else
 some (.done (.brk s11))
def vM (r_7:ByteArray × ByteArray × Bool):((List Bool) × Int)->Option (bK ((List Bool) × Int) (Ex (List Bool) (List Bool))):=
 fun zz=>match zz with
 |(s21,t474)=>
 bif (decide (t474<((aJ r_7.2.1).length:Int)))then
 bA ((0:Int)<=t474/\t474<((aJ r_7.2.1).length:Int)) (
 bA (((s21.length+[decide ((at' (aJ r_7.2.1) t474.toNat)=49)].length)*1<=140737488355328)/\(s21.length+[decide ((at' (aJ r_7.2.1) t474.toNat)=49)].length<=4611686018427387904)) (
 some (.next (s21++[decide ((at' (aJ r_7.2.1) t474.toNat)=49)],IntKind.wrap .i64 (t474+1)))))
 else
 some (.done (.brk s21))
def vH (r_8:ByteArray × ByteArray × Bool):((List Bool) × Int)->Option (bK ((List Bool) × Int) (Ex (List Bool) (List Bool))):=
 fun zz=>match zz with
 |(s51,t475)=>
 bif (decide (t475<((aJ r_8.2.1).length:Int)))then
 bA ((0:Int)<=t475/\t475<((aJ r_8.2.1).length:Int)) (
 bA (((s51.length+[decide ((at' (aJ r_8.2.1) t475.toNat)=49)].length)*1<=140737488355328)/\(s51.length+[decide ((at' (aJ r_8.2.1) t475.toNat)=49)].length<=4611686018427387904)) (
 some (.next (s51++[decide ((at' (aJ r_8.2.1) t475.toNat)=49)],IntKind.wrap .i64 (t475+1)))))
 else
 some (.done (.brk s51))
def vJ (r_9:ByteArray × ByteArray × Bool):((List Bool) × Int)->Option (bK ((List Bool) × Int) (Ex (List Bool) (List Bool))):=
 fun zz=>match zz with
 |(s61,t476)=>
 bif (decide (t476<((aJ r_9.2.1).length:Int)))then
 bA ((0:Int)<=t476/\t476<((aJ r_9.2.1).length:Int)) (
 bA (((s61.length+[decide ((at' (aJ r_9.2.1) t476.toNat)=49)].length)*1<=140737488355328)/\(s61.length+[decide ((at' (aJ r_9.2.1) t476.toNat)=49)].length<=4611686018427387904)) (
 some (.next (s61++[decide ((at' (aJ r_9.2.1) t476.toNat)=49)],IntKind.wrap .i64 (t476+1)))))
 else
 some (.done (.brk s61))
def og (p:ah) (text:ByteArray):Option (State × Int):=
 (fI p).bind fun r_=>
 bif (!decide (r_=0))then
 some ((⟨([]:List Bool),([]:List Bool),([]:List Bool),([]:List Bool),([]:List Bool),([]:List Bool),([]:List Bool)⟩:State),r_)
 else
 (iM text ⟨#[10]⟩).bind fun r_1=>
 (uO (⟨([]:List Bool),([]:List Bool),([]:List Bool),([]:List Bool),([]:List Bool),([]:List Bool),([]:List Bool)⟩:State)).bind fun r_2=>
 Option.bind (α:=(List Bool)) (
 bA ((0:Int)<=0/\0<(7:Int)) (
 bif (decide ((0:Int)<(r_1.length:Int)))then
 (dA (at' r_1 0) ⟨#[32]⟩).bind fun r_3=>
 bA ((0:Int)<=0/\0<(r_1.length:Int)) (
 Option.bind (aH (cO r_3) FUEL (([]:List Bool),0)) fun o=>match o with
 | .ret v=>some v
 | .brk s32=>
 some s32)
 else
 some ([]:List Bool))) fun s3=>
 Option.bind (α:=(List Bool)) (
 bA ((0:Int)<=1/\1<(7:Int)) (
 bif (decide ((1:Int)<(r_1.length:Int)))then
 (dA (at' r_1 1) ⟨#[32]⟩).bind fun r_4=>
 bA ((0:Int)<=1/\1<(r_1.length:Int)) (
 Option.bind (aH (vK r_4) FUEL (([]:List Bool),0)) fun o=>match o with
 | .ret v=>some v
 | .brk s42=>
 some s42)
 else
 some ([]:List Bool))) fun s4=>
 Option.bind (α:=(List Bool)) (
 bA ((0:Int)<=2/\2<(7:Int)) (
 bif (decide ((2:Int)<(r_1.length:Int)))then
 (dA (at' r_1 2) ⟨#[32]⟩).bind fun r_5=>
 bA ((0:Int)<=2/\2<(r_1.length:Int)) (
 Option.bind (aH (vQ r_5) FUEL (([]:List Bool),0)) fun o=>match o with
 | .ret v=>some v
 | .brk s02=>
 some s02)
 else
 some ([]:List Bool))) fun s0=>
 Option.bind (α:=(List Bool)) (
 bA ((0:Int)<=3/\3<(7:Int)) (
 bif (decide ((3:Int)<(r_1.length:Int)))then
 (dA (at' r_1 3) ⟨#[32]⟩).bind fun r_6=>
 bA ((0:Int)<=3/\3<(r_1.length:Int)) (
 Option.bind (aH (wz r_6) FUEL (([]:List Bool),0)) fun o=>match o with
 | .ret v=>some v
 | .brk s12=>
 some s12)
 else
 some ([]:List Bool))) fun s1=>
 Option.bind (α:=(List Bool)) (
 bA ((0:Int)<=4/\4<(7:Int)) (
 bif (decide ((4:Int)<(r_1.length:Int)))then
 (dA (at' r_1 4) ⟨#[32]⟩).bind fun r_7=>
 bA ((0:Int)<=4/\4<(r_1.length:Int)) (
 Option.bind (aH (vM r_7) FUEL (([]:List Bool),0)) fun o=>match o with
 | .ret v=>some v
 | .brk s22=>
 some s22)
 else
 some ([]:List Bool))) fun s2=>
 Option.bind (α:=(List Bool)) (
 bA ((0:Int)<=5/\5<(7:Int)) (
 bif (decide ((5:Int)<(r_1.length:Int)))then
 (dA (at' r_1 5) ⟨#[32]⟩).bind fun r_8=>
 bA ((0:Int)<=5/\5<(r_1.length:Int)) (
 Option.bind (aH (vH r_8) FUEL (([]:List Bool),0)) fun o=>match o with
 | .ret v=>some v
 | .brk s52=>
 some s52)
 else
 some ([]:List Bool))) fun s5=>
 Option.bind (α:=(List Bool)) (
 bA ((0:Int)<=6/\6<(7:Int)) (
 bif (decide ((6:Int)<(r_1.length:Int)))then
 (dA (at' r_1 6) ⟨#[32]⟩).bind fun r_9=>
 bA ((0:Int)<=6/\6<(r_1.length:Int)) (
 Option.bind (aH (vJ r_9) FUEL (([]:List Bool),0)) fun o=>match o with
 | .ret v=>some v
 | .brk s62=>
 some s62)
 else
 some ([]:List Bool))) fun s6=>
 (bT p (⟨s0,s1,s2,s3,s4,s5,s6⟩:State)).bind fun r_10=>
 (bif gB [(!decide (r_10=0),false)]then lT (⟨s0,s1,s2,s3,s4,s5,s6⟩:State)else some default).bind fun r_11=>
 bif (bif (!decide (r_10=0))then true else(!((r_11:ByteArray).toList==(text:ByteArray).toList)))then
 some ((⟨([]:List Bool),([]:List Bool),([]:List Bool),([]:List Bool),([]:List Bool),([]:List Bool),([]:List Bool)⟩:State),3)
 else
 some ((⟨s0,s1,s2,s3,s4,s5,s6⟩:State),0)
def jJ (text:ByteArray) (word:ByteArray) (n:Int):((List Bool) × Int)->Option (bK ((List Bool) × Int) (Ex (List Bool) ((List Bool) × ByteArray × Bool))):=
 fun zz=>match zz with
 |(out,i)=>
 bif (decide (i<(IntKind.wrap .i64 ((IntKind.wrap .i64 (((word.size:Nat):Int)+1))+n))))then
 bA (((0:Int)<=i/\i<((text.size:Nat):Int))/\(gB [(!decide ((at' (aJ text) i.toNat)=48),true)]=true->(0:Int)<=i/\i<((text.size:Nat):Int))) (
 bif (bif (!decide ((at' (aJ text) i.toNat)=48))then(!decide ((at' (aJ text) i.toNat)=49))else false)then
 some (.done (.ret (([]:List Bool),⟨#[]⟩,false)))
 else
 bA (((0:Int)<=i/\i<((text.size:Nat):Int))/\((out.length+[decide ((at' (aJ text) i.toNat)=49)].length)*1<=140737488355328)/\(out.length+[decide ((at' (aJ text) i.toNat)=49)].length<=4611686018427387904)) (
 some (.next (out++[decide ((at' (aJ text) i.toNat)=49)],IntKind.wrap .i64 (i+1)))))
 else
 some (.done (.brk out))
def fw (text:ByteArray) (word:ByteArray) (n:Int):Option ((List Bool) × ByteArray × Bool):=
 bA ((gB [(decide (((text.size:Nat):Int)<(IntKind.wrap .i64 ((IntKind.wrap .i64 ((IntKind.wrap .i64 (((word.size:Nat):Int)+1))+n))+1))),false)]=true->(0:Int)<=(IntKind.wrap .i64 (((word.size:Nat):Int)+1))/\(IntKind.wrap .i64 (((word.size:Nat):Int)+1))<=((text.size:Nat):Int))/\(gB [(decide (((text.size:Nat):Int)<(IntKind.wrap .i64 ((IntKind.wrap .i64 ((IntKind.wrap .i64 (((word.size:Nat):Int)+1))+n))+1))),false)]=true->word.size+(⟨#[32]⟩:ByteArray).size<=9223372036854775807)/\(gB [((bif (decide (((text.size:Nat):Int)<(IntKind.wrap .i64 ((IntKind.wrap .i64 ((IntKind.wrap .i64 (((word.size:Nat):Int)+1))+n))+1))))then true else(!(((jh text 0 ((IntKind.wrap .i64 (((word.size:Nat):Int)+1)).toNat)):ByteArray).toList==((ax word ⟨#[32]⟩):ByteArray).toList))),false)]=true->(0:Int)<=(IntKind.wrap .i64 ((IntKind.wrap .i64 (((word.size:Nat):Int)+1))+n))/\(IntKind.wrap .i64 ((IntKind.wrap .i64 (((word.size:Nat):Int)+1))+n))<((text.size:Nat):Int))) (
 bif (bif (bif (decide (((text.size:Nat):Int)<(IntKind.wrap .i64 ((IntKind.wrap .i64 ((IntKind.wrap .i64 (((word.size:Nat):Int)+1))+n))+1))))then true else(!(((jh text 0 ((IntKind.wrap .i64 (((word.size:Nat):Int)+1)).toNat)):ByteArray).toList==((ax word ⟨#[32]⟩):ByteArray).toList)))then true else(!decide ((at' (aJ text) ((IntKind.wrap .i64 ((IntKind.wrap .i64 (((word.size:Nat):Int)+1))+n)).toNat))=10)))then
 some (([]:List Bool),⟨#[]⟩,false)
 else
 Option.bind (aH (jJ text word n) FUEL (([]:List Bool),IntKind.wrap .i64 (((word.size:Nat):Int)+1))) fun o=>match o with
 | .ret v=>some v
 | .brk out1=>
 bA ((0:Int)<=(IntKind.wrap .i64 ((IntKind.wrap .i64 ((IntKind.wrap .i64 (((word.size:Nat):Int)+1))+n))+1))/\(IntKind.wrap .i64 ((IntKind.wrap .i64 ((IntKind.wrap .i64 (((word.size:Nat):Int)+1))+n))+1))<=((text.size:Nat):Int)) (
 some (out1,jh text ((IntKind.wrap .i64 ((IntKind.wrap .i64 ((IntKind.wrap .i64 (((word.size:Nat):Int)+1))+n))+1)).toNat) text.size,true)))
def aZ (p:ah):(ByteArray × (List Bool) × (List Bool) × (List Bool) × (List Bool) × (List Bool) × (List Bool) × (List Bool) × Int)->Option (bK (ByteArray × (List Bool) × (List Bool) × (List Bool) × (List Bool) × (List Bool) × (List Bool) × (List Bool) × Int) (Ex (ByteArray × (List Bool) × (List Bool) × (List Bool) × (List Bool) × (List Bool) × (List Bool) × (List Bool)) (State × Int))):=
 fun zz=>match zz with
 |(text2,l01,l1,l2,l3,l4,l5,l6,i1)=>
 bif (decide (i1<7))then
 (fw text2 (at' [(⟨#[111,110]⟩:ByteArray),⟨#[98,97,100,115,111,117,114,99,101]⟩,⟨#[99,108,111,115,101,100]⟩,⟨#[108,111,99,107,101,100]⟩,⟨#[98,97,100,108,105,110,107]⟩,⟨#[101,97,114,116,104,101,100]⟩,⟨#[98,97,100,98,117,115]⟩] i1.toNat) (at' [(p.aa.length:Int),(p.aa.length:Int),(p.ac.length:Int),(p.ac.length:Int),(p.ac.length:Int),p.ae,p.ae] i1.toNat)).bind fun r_1=>
 bA (((0:Int)<=i1/\i1<([(⟨#[111,110]⟩:ByteArray),⟨#[98,97,100,115,111,117,114,99,101]⟩,⟨#[99,108,111,115,101,100]⟩,⟨#[108,111,99,107,101,100]⟩,⟨#[98,97,100,108,105,110,107]⟩,⟨#[101,97,114,116,104,101,100]⟩,⟨#[98,97,100,98,117,115]⟩].length:Int))/\((0:Int)<=i1/\i1<([(p.aa.length:Int),(p.aa.length:Int),(p.ac.length:Int),(p.ac.length:Int),(p.ac.length:Int),p.ae,p.ae].length:Int))) (
 bif (!r_1.2.2)then
 some (.done (.ret ((⟨([]:List Bool),([]:List Bool),([]:List Bool),([]:List Bool),([]:List Bool),([]:List Bool),([]:List Bool)⟩:State),3)))
 else
 bif (decide (i1=0))then
 some (.next (r_1.2.1,r_1.1,l1,l2,l3,l4,l5,l6,1))
 else
 bif (decide (i1=1))then
 some (.next (r_1.2.1,l01,r_1.1,l2,l3,l4,l5,l6,2))
 else
 bif (decide (i1=2))then
 some (.next (r_1.2.1,l01,l1,r_1.1,l3,l4,l5,l6,3))
 else
 bif (decide (i1=3))then
 some (.next (r_1.2.1,l01,l1,l2,r_1.1,l4,l5,l6,4))
 else
 bif (decide (i1=4))then
 some (.next (r_1.2.1,l01,l1,l2,l3,r_1.1,l5,l6,5))
 else
 bif (decide (i1=5))then
 some (.next (r_1.2.1,l01,l1,l2,l3,l4,r_1.1,l6,6))
 else
 bA (i1=6) (
 some (.next (r_1.2.1,l01,l1,l2,l3,l4,l5,r_1.1,7))))
 else
 some (.done (.brk (text2,l01,l1,l2,l3,l4,l5,l6)))
def lS (p:ah) (text:ByteArray):Option (State × Int):=
 (gM p).bind fun r_=>
 bif (!decide (r_=0))then
 some ((⟨([]:List Bool),([]:List Bool),([]:List Bool),([]:List Bool),([]:List Bool),([]:List Bool),([]:List Bool)⟩:State),r_)
 else
 Option.bind (aH (aZ p) FUEL (text,([]:List Bool),([]:List Bool),([]:List Bool),([]:List Bool),([]:List Bool),([]:List Bool),([]:List Bool),0)) fun o=>match o with
 | .ret v=>some v
 | .brk (text3,l02,l11,l21,l31,l41,l51,l61)=>
 (bif gB [(!((text3:ByteArray).toList==(⟨#[]⟩:ByteArray).toList),false)]then l9 p (⟨l21,l31,l41,l02,l11,l51,l61⟩:State)else some default).bind fun r_2=>
 bif (bif (!((text3:ByteArray).toList==(⟨#[]⟩:ByteArray).toList))then true else(!r_2))then
 some ((⟨([]:List Bool),([]:List Bool),([]:List Bool),([]:List Bool),([]:List Bool),([]:List Bool),([]:List Bool)⟩:State),3)
 else
 some ((⟨l21,l31,l41,l02,l11,l51,l61⟩:State),0)
def jy (a:List Bool) (b:List Bool):Int->Option (bK Int (Ex Unit Bool)):=
 fun i=>
 bif (decide (i<(a.length:Int)))then
 bA (((0:Int)<=i/\i<(a.length:Int))/\((0:Int)<=i/\i<(b.length:Int))) (
 bif (!((at' a i.toNat)==(at' b i.toNat)))then
 some (.done (.ret false))
 else
 some (.next (IntKind.wrap .i64 (i+1))))
 else
 some (.done (.brk ()))
def dI (a:List Bool) (b:List Bool):Option Bool:=
 bif (!decide ((a.length:Int)=(b.length:Int)))then
 some false
 else
 Option.bind (aH (jy a b) FUEL (0)) fun o=>match o with
 | .ret v=>some v
 | .brk _=>
 some true
def iK (a:State) (b:State):Option Bool:=
 (dI a.a_ b.a_).bind fun r_=>
 (bif gB [(r_,true)]then dI a.ba b.ba else some default).bind fun r_1=>
 (bif gB [((bif r_ then r_1 else false),true)]then dI a.aq b.aq else some default).bind fun r_2=>
 (bif gB [((bif (bif r_ then r_1 else false)then r_2 else false),true)]then dI a.on_ b.on_ else some default).bind fun r_3=>
 (bif gB [((bif (bif (bif r_ then r_1 else false)then r_2 else false)then r_3 else false),true)]then dI a.ag b.ag else some default).bind fun r_4=>
 (bif gB [((bif (bif (bif (bif r_ then r_1 else false)then r_2 else false)then r_3 else false)then r_4 else false),true)]then dI a.aw b.aw else some default).bind fun r_5=>
 (bif gB [((bif (bif (bif (bif (bif r_ then r_1 else false)then r_2 else false)then r_3 else false)then r_4 else false)then r_5 else false),true)]then dI a.ap b.ap else some default).bind fun r_6=>
 some (bif (bif (bif (bif (bif (bif r_ then r_1 else false)then r_2 else false)then r_3 else false)then r_4 else false)then r_5 else false)then r_6 else false)
def iG (text:ByteArray) (r_3:ByteArray × Int):Int->Option (bK Int (Ex Unit Bool)):=
 fun t88=>
 bif (decide (t88<([text,r_3.1].length:Int)))then
 bA ((0:Int)<=t88/\t88<([text,r_3.1].length:Int)) (
 (lZ (at' [text,r_3.1] t88.toNat)).bind fun r_6=>
 (mg (at' [text,r_3.1] t88.toNat)).bind fun r_7=>
 (bif gB [((bif (!decide (r_6.2.2=r_7.2.2))then true else(!decide (r_6.2.1=r_7.2.1))),false)]then iN r_6.1 r_7.1 else some default).bind fun r_8=>
 bif (bif (bif (!decide (r_6.2.2=r_7.2.2))then true else(!decide (r_6.2.1=r_7.2.1)))then true else(!r_8))then
 some (.done (.ret false))
 else
 some (.next (IntKind.wrap .i64 (t88+1))))
 else
 some (.done (.brk ()))
def iF (p:ah) (state:ByteArray) (r_5:ByteArray × Int):Int->Option (bK Int (Ex Unit Bool)):=
 fun t123=>
 bif (decide (t123<([state,r_5.1].length:Int)))then
 bA ((0:Int)<=t123/\t123<([state,r_5.1].length:Int)) (
 (og p (at' [state,r_5.1] t123.toNat)).bind fun r_9=>
 (lS p (at' [state,r_5.1] t123.toNat)).bind fun r_10=>
 (bif gB [(!decide (r_9.2=r_10.2),false)]then iK r_9.1 r_10.1 else some default).bind fun r_11=>
 bif (bif (!decide (r_9.2=r_10.2))then true else(!r_11))then
 some (.done (.ret false))
 else
 some (.next (IntKind.wrap .i64 (t123+1))))
 else
 some (.done (.brk ()))
def kr (p:ah) (s_:State) (text:ByteArray) (state:ByteArray):Option Bool:=
 (r9 p).bind fun r_=>
 bif (bif (bif r_ then true else(decide (4000<((text.size:Nat):Int))))then true else(decide (4000<((state.size:Nat):Int))))then
 (pz).bind fun r_1=>
 some r_1
 else
 (eT p).bind fun r_2=>
 (iw p).bind fun r_3=>
 (gJ p s_).bind fun r_4=>
 (nE p s_).bind fun r_5=>
 bif (bif (bif (bif (!decide (r_2.2=r_3.2))then true else(!decide (r_4.2=r_5.2)))then true else(!((r_2.1:ByteArray).toList==(r_3.1:ByteArray).toList)))then true else(!((r_4.1:ByteArray).toList==(r_5.1:ByteArray).toList)))then
 some false
 else
 Option.bind (aH (iG text r_3) FUEL (0)) fun o=>match o with
 | .ret v=>some v
 | .brk _=>
 Option.bind (aH (iF p state r_5) FUEL (0)) fun o=>match o with
 | .ret v=>some v
 | .brk _=>
 (pz).bind fun r_12=>
 some r_12
end Sg
