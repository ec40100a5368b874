import Derived.Test.YtpndenfhglaikaaSh
namespace Sg
open Go
set_option linter.all false
structure Source where
 bus : Int
 kind : Int
 power : Int
 sync : Int
 ohm : Int
instance : Inhabited Source := ⟨⟨default, default, default, default, default⟩⟩
def Source.cell (x : Source) : Nat → DV
 | 0 => (.int .i64 x.bus)
 | 1 => (.int .i64 x.kind)
 | 2 => (.int .i64 x.power)
 | 3 => (.int .i64 x.sync)
 | 4 => (.int .i64 x.ohm)
 | _ => .nilp
structure Trip where
 amps : Int
 millis : Int
instance : Inhabited Trip := ⟨⟨default, default⟩⟩
def Trip.cell (x : Trip) : Nat → DV
 | 0 => (.int .i64 x.amps)
 | 1 => (.int .i64 x.millis)
 | _ => .nilp
structure Link where
 a : Int
 b : Int
 kind : Int
 most : Int
 ohm : Int
 trip : (List Trip)
instance : Inhabited Link := ⟨⟨default, default, default, default, default, default⟩⟩
def Link.cell (x : Link) : Nat → DV
 | 0 => (.int .i64 x.a)
 | 1 => (.int .i64 x.b)
 | 2 => (.int .i64 x.kind)
 | 3 => (.int .i64 x.most)
 | 4 => (.int .i64 x.ohm)
 | 5 => (slD none 2 Trip.cell x.trip)
 | _ => .nilp
structure Arr2Int where
 e0 : Int
 e1 : Int
instance : Inhabited Arr2Int := ⟨⟨default, default⟩⟩
def Arr2Int.cell (x : Arr2Int) : Nat → DV
 | 0 => (.int .i64 x.e0)
 | 1 => (.int .i64 x.e1)
 | _ => .nilp
structure Rack where
 feeds : Arr2Int
 power : Int
 paths : Int
instance : Inhabited Rack := ⟨⟨default, default, default⟩⟩
def Rack.cell (x : Rack) : Nat → DV
 | 0 => (.int .i64 x.feeds.e0)
 | 1 => (.int .i64 x.feeds.e1)
 | 2 => (.int .i64 x.power)
 | 3 => (.int .i64 x.paths)
 | _ => .nilp
structure Plant where
 buses : Int
 sources : (List Source)
 links : (List Link)
 racks : (List Rack)
instance : Inhabited Plant := ⟨⟨default, default, default, default⟩⟩
def Plant.cell (x : Plant) : Nat → DV
 | 0 => (.int .i64 x.buses)
 | 1 => (slD none 5 Source.cell x.sources)
 | 2 => (slD none 6 Link.cell x.links)
 | 3 => (slD none 4 Rack.cell x.racks)
 | _ => .nilp
structure State where
 closed : (List Bool)
 locked : (List Bool)
 badLink : (List Bool)
 on_ : (List Bool)
 badSource : (List Bool)
 earthed : (List Bool)
 badBus : (List Bool)
instance : Inhabited State := ⟨⟨default, default, default, default, default, default, default⟩⟩
def State.cell (x : State) : Nat → DV
 | 0 => (slD none 1 boolC x.closed)
 | 1 => (slD none 1 boolC x.locked)
 | 2 => (slD none 1 boolC x.badLink)
 | 3 => (slD none 1 boolC x.on_)
 | 4 => (slD none 1 boolC x.badSource)
 | 5 => (slD none 1 boolC x.earthed)
 | 6 => (slD none 1 boolC x.badBus)
 | _ => .nilp
structure S128 where
 l : (List Bool)
 n : Int
instance : Inhabited S128 := ⟨⟨default, default⟩⟩
def S128.cell (x : S128) : Nat → DV
 | 0 => (slD none 1 boolC x.l)
 | 1 => (.int .i64 x.n)
 | _ => .nilp
structure Way where
 there : Bool
 ohm : Int
 links : (List Int)
instance : Inhabited Way := ⟨⟨default, default, default⟩⟩
def Way.cell (x : Way) : Nat → DV
 | 0 => (.bool x.there)
 | 1 => (.int .i64 x.ohm)
 | 2 => (slD none 1 (intC .i64) x.links)
 | _ => .nilp
structure Short where
 source : Int
 ohm : Int
 amps : Int
 links : (List Int)
instance : Inhabited Short := ⟨⟨default, default, default, default⟩⟩
def Short.cell (x : Short) : Nat → DV
 | 0 => (.int .i64 x.source)
 | 1 => (.int .i64 x.ohm)
 | 2 => (.int .i64 x.amps)
 | 3 => (slD none 1 (intC .i64) x.links)
 | _ => .nilp
structure Event where
 millis : Int
 link : Int
instance : Inhabited Event := ⟨⟨default, default⟩⟩
def Event.cell (x : Event) : Nat → DV
 | 0 => (.int .i64 x.millis)
 | 1 => (.int .i64 x.link)
 | _ => .nilp
structure Clearing where
 events : (List Event)
 cleared : Bool
 millis : Int
 energy : Int
 state : State
instance : Inhabited Clearing := ⟨⟨default, default, default, default, default⟩⟩
def Clearing.cell (x : Clearing) : Nat → DV
 | 0 => (slD none 2 Event.cell x.events)
 | 1 => (.bool x.cleared)
 | 2 => (.int .i64 x.millis)
 | 3 => (.int .i64 x.energy)
 | 4 => (slD none 1 boolC x.state.closed)
 | 5 => (slD none 1 boolC x.state.locked)
 | 6 => (slD none 1 boolC x.state.badLink)
 | 7 => (slD none 1 boolC x.state.on_)
 | 8 => (slD none 1 boolC x.state.badSource)
 | 9 => (slD none 1 boolC x.state.earthed)
 | 10 => (slD none 1 boolC x.state.badBus)
 | _ => .nilp
structure Machine where
 clearing : Clearing
 p : Plant
 bus : Int
 amps : (List Int)
 total : Int
 since : (List (Int × Int))
 now : Int
instance : Inhabited Machine := ⟨⟨default, default, default, default, default, default, default⟩⟩
def Machine.cell (x : Machine) : Nat → DV
 | 0 => (slD none 2 Event.cell x.clearing.events)
 | 1 => (.bool x.clearing.cleared)
 | 2 => (.int .i64 x.clearing.millis)
 | 3 => (.int .i64 x.clearing.energy)
 | 4 => (slD none 1 boolC x.clearing.state.closed)
 | 5 => (slD none 1 boolC x.clearing.state.locked)
 | 6 => (slD none 1 boolC x.clearing.state.badLink)
 | 7 => (slD none 1 boolC x.clearing.state.on_)
 | 8 => (slD none 1 boolC x.clearing.state.badSource)
 | 9 => (slD none 1 boolC x.clearing.state.earthed)
 | 10 => (slD none 1 boolC x.clearing.state.badBus)
 | 11 => (.int .i64 x.p.buses)
 | 12 => (slD none 5 Source.cell x.p.sources)
 | 13 => (slD none 6 Link.cell x.p.links)
 | 14 => (slD none 4 Rack.cell x.p.racks)
 | 15 => (.int .i64 x.bus)
 | 16 => (slD none 1 (intC .i64) x.amps)
 | 17 => (.int .i64 x.total)
 | 18 => .nilp
 | 19 => (.int .i64 x.now)
 | _ => .nilp
structure Part where
 kind : Int
 index : Int
instance : Inhabited Part := ⟨⟨default, default⟩⟩
def Part.cell (x : Part) : Nat → DV
 | 0 => (.int .i64 x.kind)
 | 1 => (.int .i64 x.index)
 | _ => .nilp
structure Groups_int_ where
 head : (List (Int × Int))
instance : Inhabited Groups_int_ := ⟨⟨default⟩⟩
def Groups_int_.cell (x : Groups_int_) : Nat → DV
 | 0 => .nilp
 | _ => .nilp
structure Island where
 buses : (List Int)
 sources : (List Int)
instance : Inhabited Island := ⟨⟨default, default⟩⟩
def Island.cell (x : Island) : Nat → DV
 | 0 => (slD none 1 (intC .i64) x.buses)
 | 1 => (slD none 1 (intC .i64) x.sources)
 | _ => .nilp
structure Arr2Bool where
 e0 : Bool
 e1 : Bool
instance : Inhabited Arr2Bool := ⟨⟨default, default⟩⟩
def Arr2Bool.cell (x : Arr2Bool) : Nat → DV
 | 0 => (.bool x.e0)
 | 1 => (.bool x.e1)
 | _ => .nilp
def Island.ev (x : Island) : Nat → EV
 | 0 => .row 3 1 x.buses.length (elOf (intC .i64) x.buses)
 | 1 => .row 3 1 x.sources.length (elOf (intC .i64) x.sources)
 | _ => .d .nilp
def m_plant_within (n : Int) (first : Int) (last : Int) : Option Bool :=
 some (bif (decide (first ≤ n)) then (decide (n ≤ last)) else false)
def m_plant_source (p : Plant) : Option (Int × (List Source) × (List Link) × (List Rack)) :=
 some (p.buses, p.sources, p.links, p.racks)
def m_plant_link (p : Plant) : Option (Int × (List Source) × (List Link) × (List Rack)) :=
 some (p.buses, p.sources, p.links, p.racks)
def m_plant_rack (p : Plant) : Option (Int × (List Source) × (List Link) × (List Rack)) :=
 some (p.buses, p.sources, p.links, p.racks)
def m_plant_source_1 (x : Source) (x1 : Int) (x11 : (List Source)) (x12 : (List Link)) (x13 : (List Rack)) : Option Bool :=
 (m_plant_within x.bus 0 (IntKind.wrap .i64 (x1 - 1))).bind fun r_ =>
 (bif gB [(r_, true)] then m_plant_within x.kind 1 3 else some default).bind fun r_1 =>
 (bif gB [((bif r_ then r_1 else false), true)] then m_plant_within x.power 1 100000 else some default).bind fun r_2 =>
 (bif gB [((bif (bif r_ then r_1 else false) then r_2 else false), true)] then m_plant_within x.sync 0 8 else some default).bind fun r_3 =>
 (bif gB [((bif (bif (bif r_ then r_1 else false) then r_2 else false) then r_3 else false), true)] then m_plant_within x.ohm 10 100000 else some default).bind fun r_4 =>
 some (bif (bif (bif (bif r_ then r_1 else false) then r_2 else false) then r_3 else false) then r_4 else false)
def m_plant_good_1 (x : Source) (x1 : Int) (x11 : (List Source)) (x12 : (List Link)) (x13 : (List Rack)) : Option Bool :=
 (m_plant_source_1 x x1 x11 x12 x13).bind fun r_ =>
 some (!r_)
def m_slices_IndexFunc_L0 (s_ : (List Source)) (f_ : Int) (f_1 : (List Source)) (f_2 : (List Link)) (f_3 : (List Rack)) : Int → Option (Flow Int (Ex Unit Int)) :=
 fun t8 =>
 bif (decide (t8 < (s_.length : Int))) then
 (m_plant_good_1 (at' s_ t8.toNat) f_ f_1 f_2 f_3).bind fun r_ =>
 asO ((0 : Int) ≤ t8 ∧ t8 < (s_.length : Int)) (
 bif r_ then
 some (.done (.ret t8))
 else
 some (.next (IntKind.wrap .i64 (t8 + 1))))
 else
 some (.done (.brk ()))
def m_slices_IndexFunc (s_ : (List Source)) (f_ : Int) (f_1 : (List Source)) (f_2 : (List Link)) (f_3 : (List Rack)) : Option Int :=
 Option.bind (loopO (m_slices_IndexFunc_L0 s_ f_ f_1 f_2 f_3) FUEL (0)) fun o => match o with
 | .ret v => some v
 | .brk _ =>
 some (-1)
def m_slices_ContainsFunc (s_ : (List Source)) (f_ : Int) (f_1 : (List Source)) (f_2 : (List Link)) (f_3 : (List Rack)) : Option Bool :=
 (m_slices_IndexFunc s_ f_ f_1 f_2 f_3).bind fun r_ =>
 some (decide (0 ≤ r_))
def m_plant_good (l : (List Source)) (most : Int) (right : Int) (right1 : (List Source)) (right2 : (List Link)) (right3 : (List Rack)) : Option Bool :=
 (bif gB [((decide ((l.length : Int) ≤ most)), true)] then m_slices_ContainsFunc l right right1 right2 right3 else some default).bind fun r_ =>
 some (bif (decide ((l.length : Int) ≤ most)) then (!r_) else false)
def m_plant_link_1_L0 (x : Link) : Int → Option (Flow Int (Ex Unit Bool)) :=
 fun t50 =>
 bif (decide (t50 < (x.trip.length : Int))) then
 asO ((0 : Int) ≤ t50 ∧ t50 < (x.trip.length : Int)) (
 (m_plant_within ((at' x.trip t50.toNat).amps) 1 1000000).bind fun r_5 =>
 (bif gB [((!r_5), false)] then m_plant_within ((at' x.trip t50.toNat).millis) 1 100000 else some default).bind fun r_6 =>
 asO ((gB [((decide (0 < t50)), true), ((bif (!r_5) then true else (!r_6)), false)] = true → (0 : Int) ≤ (IntKind.wrap .i64 (t50 - 1)) ∧ (IntKind.wrap .i64 (t50 - 1)) < (x.trip.length : Int)) ∧ (gB [((decide (((at' x.trip t50.toNat).amps) ≤ ((at' x.trip ((IntKind.wrap .i64 (t50 - 1)).toNat)).amps))), false), ((decide (0 < t50)), true), ((bif (!r_5) then true else (!r_6)), false)] = true → (0 : Int) ≤ (IntKind.wrap .i64 (t50 - 1)) ∧ (IntKind.wrap .i64 (t50 - 1)) < (x.trip.length : Int))) (
 bif (bif (bif (!r_5) then true else (!r_6)) then true else (bif (decide (0 < t50)) then (bif (decide (((at' x.trip t50.toNat).amps) ≤ ((at' x.trip ((IntKind.wrap .i64 (t50 - 1)).toNat)).amps))) then true else (decide (((at' x.trip ((IntKind.wrap .i64 (t50 - 1)).toNat)).millis) ≤ ((at' x.trip t50.toNat).millis)))) else false)) then
 some (.done (.ret false))
 else
 some (.next (IntKind.wrap .i64 (t50 + 1)))))
 else
 some (.done (.brk ()))
def m_plant_link_1 (x : Link) (x1 : Int) (x11 : (List Source)) (x12 : (List Link)) (x13 : (List Rack)) : Option Bool :=
 (m_plant_within x.a 0 (IntKind.wrap .i64 (x1 - 1))).bind fun r_ =>
 (bif gB [((!r_), false)] then m_plant_within x.b 0 (IntKind.wrap .i64 (x1 - 1)) else some default).bind fun r_1 =>
 (bif gB [((bif (bif (!r_) then true else (!r_1)) then true else (decide (x.a = x.b))), false)] then m_plant_within x.kind 1 3 else some default).bind fun r_2 =>
 (bif gB [((bif (bif (bif (!r_) then true else (!r_1)) then true else (decide (x.a = x.b))) then true else (!r_2)), false)] then m_plant_within x.most 1 100000 else some default).bind fun r_3 =>
 (bif gB [((bif (bif (bif (bif (!r_) then true else (!r_1)) then true else (decide (x.a = x.b))) then true else (!r_2)) then true else (!r_3)), false)] then m_plant_within x.ohm 10 100000 else some default).bind fun r_4 =>
 bif (bif (bif (bif (bif (bif (!r_) then true else (!r_1)) then true else (decide (x.a = x.b))) then true else (!r_2)) then true else (!r_3)) then true else (!r_4)) then
 some false
 else
 Option.bind (loopO (m_plant_link_1_L0 x) FUEL (0)) fun o => match o with
 | .ret v => some v
 | .brk _ =>
 some (bif (decide ((x.trip.length : Int) ≤ 6)) then (bif (decide ((x.trip.length : Int) = 0)) then true else (decide (x.kind = 3))) else false)
def m_plant_good_1137 (x : Link) (x1 : Int) (x11 : (List Source)) (x12 : (List Link)) (x13 : (List Rack)) : Option Bool :=
 (m_plant_link_1 x x1 x11 x12 x13).bind fun r_ =>
 some (!r_)
def m_slices_IndexFunc151_L0 (s_ : (List Link)) (f_ : Int) (f_1 : (List Source)) (f_2 : (List Link)) (f_3 : (List Rack)) : Int → Option (Flow Int (Ex Unit Int)) :=
 fun t8 =>
 bif (decide (t8 < (s_.length : Int))) then
 (m_plant_good_1137 (at' s_ t8.toNat) f_ f_1 f_2 f_3).bind fun r_ =>
 asO ((0 : Int) ≤ t8 ∧ t8 < (s_.length : Int)) (
 bif r_ then
 some (.done (.ret t8))
 else
 some (.next (IntKind.wrap .i64 (t8 + 1))))
 else
 some (.done (.brk ()))
def m_slices_IndexFunc151 (s_ : (List Link)) (f_ : Int) (f_1 : (List Source)) (f_2 : (List Link)) (f_3 : (List Rack)) : Option Int :=
 Option.bind (loopO (m_slices_IndexFunc151_L0 s_ f_ f_1 f_2 f_3) FUEL (0)) fun o => match o with
 | .ret v => some v
 | .brk _ =>
 some (-1)
def m_slices_ContainsFunc136 (s_ : (List Link)) (f_ : Int) (f_1 : (List Source)) (f_2 : (List Link)) (f_3 : (List Rack)) : Option Bool :=
 (m_slices_IndexFunc151 s_ f_ f_1 f_2 f_3).bind fun r_ =>
 some (decide (0 ≤ r_))
def m_plant_good97 (l : (List Link)) (most : Int) (right : Int) (right1 : (List Source)) (right2 : (List Link)) (right3 : (List Rack)) : Option Bool :=
 (bif gB [((decide ((l.length : Int) ≤ most)), true)] then m_slices_ContainsFunc136 l right right1 right2 right3 else some default).bind fun r_ =>
 some (bif (decide ((l.length : Int) ≤ most)) then (!r_) else false)
def m_plant_feeds (x : Rack) : Option Int :=
 bif (decide (x.feeds.e1 = (-1))) then
 some 1
 else
 some 2
def m_plant_rack_1 (x : Rack) (x1 : Int) (x11 : (List Source)) (x12 : (List Link)) (x13 : (List Rack)) : Option Bool :=
 (m_plant_within x.feeds.e0 0 (IntKind.wrap .i64 (x1 - 1))).bind fun r_ =>
 (bif gB [(r_, true)] then m_plant_within x.feeds.e1 (-1) (IntKind.wrap .i64 (x1 - 1)) else some default).bind fun r_1 =>
 (bif gB [((bif (bif r_ then r_1 else false) then (!decide (x.feeds.e0 = x.feeds.e1)) else false), true)] then m_plant_within x.power 1 100000 else some default).bind fun r_2 =>
 (bif gB [((bif (bif (bif r_ then r_1 else false) then (!decide (x.feeds.e0 = x.feeds.e1)) else false) then r_2 else false), true)] then m_plant_feeds x else some default).bind fun r_3 =>
 (bif gB [((bif (bif (bif r_ then r_1 else false) then (!decide (x.feeds.e0 = x.feeds.e1)) else false) then r_2 else false), true)] then m_plant_within x.paths 0 r_3 else some default).bind fun r_4 =>
 some (bif (bif (bif (bif r_ then r_1 else false) then (!decide (x.feeds.e0 = x.feeds.e1)) else false) then r_2 else false) then r_4 else false)
def m_plant_good_1140 (x : Rack) (x1 : Int) (x11 : (List Source)) (x12 : (List Link)) (x13 : (List Rack)) : Option Bool :=
 (m_plant_rack_1 x x1 x11 x12 x13).bind fun r_ =>
 some (!r_)
def m_slices_IndexFunc152_L0 (s_ : (List Rack)) (f_ : Int) (f_1 : (List Source)) (f_2 : (List Link)) (f_3 : (List Rack)) : Int → Option (Flow Int (Ex Unit Int)) :=
 fun t8 =>
 bif (decide (t8 < (s_.length : Int))) then
 (m_plant_good_1140 (⟨((at' s_ t8.toNat).feeds), (at' s_ t8.toNat).power, (at' s_ t8.toNat).paths⟩ : Rack) f_ f_1 f_2 f_3).bind fun r_ =>
 asO ((0 : Int) ≤ t8 ∧ t8 < (s_.length : Int)) (
 bif r_ then
 some (.done (.ret t8))
 else
 some (.next (IntKind.wrap .i64 (t8 + 1))))
 else
 some (.done (.brk ()))
def m_slices_IndexFunc152 (s_ : (List Rack)) (f_ : Int) (f_1 : (List Source)) (f_2 : (List Link)) (f_3 : (List Rack)) : Option Int :=
 Option.bind (loopO (m_slices_IndexFunc152_L0 s_ f_ f_1 f_2 f_3) FUEL (0)) fun o => match o with
 | .ret v => some v
 | .brk _ =>
 some (-1)
def m_slices_ContainsFunc139 (s_ : (List Rack)) (f_ : Int) (f_1 : (List Source)) (f_2 : (List Link)) (f_3 : (List Rack)) : Option Bool :=
 (m_slices_IndexFunc152 s_ f_ f_1 f_2 f_3).bind fun r_ =>
 some (decide (0 ≤ r_))
def m_plant_good99 (l : (List Rack)) (most : Int) (right : Int) (right1 : (List Source)) (right2 : (List Link)) (right3 : (List Rack)) : Option Bool :=
 (bif gB [((decide ((l.length : Int) ≤ most)), true)] then m_slices_ContainsFunc139 l right right1 right2 right3 else some default).bind fun r_ =>
 some (bif (decide ((l.length : Int) ≤ most)) then (!r_) else false)
def m_plant_Check (p : Plant) : Option Int :=
 (m_plant_within p.buses 1 24).bind fun r_ =>
 bif (!r_) then
 some 10
 else
 (m_plant_source p).bind fun r_1 =>
 (m_plant_good p.sources 8 r_1.1 r_1.2.1 r_1.2.2.1 r_1.2.2.2).bind fun r_2 =>
 bif (!r_2) then
 some 11
 else
 (m_plant_link p).bind fun r_3 =>
 (m_plant_good97 p.links 40 r_3.1 r_3.2.1 r_3.2.2.1 r_3.2.2.2).bind fun r_4 =>
 bif (!r_4) then
 some 12
 else
 (m_plant_rack p).bind fun r_5 =>
 (m_plant_good99 p.racks 24 r_5.1 r_5.2.1 r_5.2.2.1 r_5.2.2.2).bind fun r_6 =>
 bif (!r_6) then
 some 13
 else
 some 0
def m_plant_CheckState_L0 (p : Plant) (s_ : State) : Int → Option (Flow Int (Ex Unit Int)) :=
 fun t55 =>
 bif (decide (t55 < ([(⟨s_.closed, (p.links.length : Int)⟩ : S128), (⟨s_.locked, (p.links.length : Int)⟩ : S128), (⟨s_.badLink, (p.links.length : Int)⟩ : S128), (⟨s_.on_, (p.sources.length : Int)⟩ : S128), (⟨s_.badSource, (p.sources.length : Int)⟩ : S128), (⟨s_.earthed, p.buses⟩ : S128), (⟨s_.badBus, p.buses⟩ : S128)].length : Int))) then
 asO ((0 : Int) ≤ t55 ∧ t55 < ([(⟨s_.closed, (p.links.length : Int)⟩ : S128), (⟨s_.locked, (p.links.length : Int)⟩ : S128), (⟨s_.badLink, (p.links.length : Int)⟩ : S128), (⟨s_.on_, (p.sources.length : Int)⟩ : S128), (⟨s_.badSource, (p.sources.length : Int)⟩ : S128), (⟨s_.earthed, p.buses⟩ : S128), (⟨s_.badBus, p.buses⟩ : S128)].length : Int)) (
 bif (!decide ((((at' [(⟨s_.closed, (p.links.length : Int)⟩ : S128), (⟨s_.locked, (p.links.length : Int)⟩ : S128), (⟨s_.badLink, (p.links.length : Int)⟩ : S128), (⟨s_.on_, (p.sources.length : Int)⟩ : S128), (⟨s_.badSource, (p.sources.length : Int)⟩ : S128), (⟨s_.earthed, p.buses⟩ : S128), (⟨s_.badBus, p.buses⟩ : S128)] t55.toNat).l).length : Int) = ((at' [(⟨s_.closed, (p.links.length : Int)⟩ : S128), (⟨s_.locked, (p.links.length : Int)⟩ : S128), (⟨s_.badLink, (p.links.length : Int)⟩ : S128), (⟨s_.on_, (p.sources.length : Int)⟩ : S128), (⟨s_.badSource, (p.sources.length : Int)⟩ : S128), (⟨s_.earthed, p.buses⟩ : S128), (⟨s_.badBus, p.buses⟩ : S128)] t55.toNat).n))) then
 some (.done (.ret 9))
 else
 some (.next (IntKind.wrap .i64 (t55 + 1))))
 else
 some (.done (.brk ()))
def m_plant_CheckState_L1 (p : Plant) (s_ : State) : Int → Option (Flow Int (Ex Unit Int)) :=
 fun t69 =>
 bif (decide (t69 < (p.links.length : Int))) then
 asO ((0 : Int) ≤ t69 ∧ t69 < (p.links.length : Int)) (
 asO ((gB [((decide (((at' p.links t69.toNat).kind) = 1)), true)] = true → (0 : Int) ≤ t69 ∧ t69 < (s_.closed.length : Int)) ∧ (gB [((!(at' s_.closed t69.toNat)), false), ((decide (((at' p.links t69.toNat).kind) = 1)), true)] = true → (0 : Int) ≤ t69 ∧ t69 < (s_.locked.length : Int))) (
 bif (bif (decide (((at' p.links t69.toNat).kind) = 1)) then (bif (!(at' s_.closed t69.toNat)) then true else (at' s_.locked t69.toNat)) else false) then
 some (.done (.ret 9))
 else
 some (.next (IntKind.wrap .i64 (t69 + 1)))))
 else
 some (.done (.brk ()))
def m_plant_CheckState (p : Plant) (s_ : State) : Option Int :=
 (m_plant_Check p).bind fun r_ =>
 bif (!decide (r_ = 0)) then
 some r_
 else
 Option.bind (loopO (m_plant_CheckState_L0 p s_) FUEL (0)) fun o => match o with
 | .ret v => some v
 | .brk _ =>
 Option.bind (loopO (m_plant_CheckState_L1 p s_) FUEL (0)) fun o => match o with
 | .ret v => some v
 | .brk _ =>
 some 0
def m_slices_Clone (s_ : (List Bool)) (s_nn : Bool) : Option (List Bool) :=
 bif (!s_nn) then
 some ([] : List Bool)
 else
 asO (((([] : List Bool).length + s_.length) * 1 ≤ 140737488355328) ∧ (([] : List Bool).length + s_.length ≤ 4611686018427387904)) (
 some (([] : List Bool) ++ s_))
def m_slices_Clone_a (s : (List Bool)) : Option (List Bool) := m_slices_Clone s true
def m_guard_copied (s_ : State) : Option State :=
 (m_slices_Clone_a s_.closed).bind fun r_ =>
 (m_slices_Clone_a s_.locked).bind fun r_1 =>
 (m_slices_Clone_a s_.badLink).bind fun r_2 =>
 (m_slices_Clone_a s_.on_).bind fun r_3 =>
 (m_slices_Clone_a s_.badSource).bind fun r_4 =>
 (m_slices_Clone_a s_.earthed).bind fun r_5 =>
 (m_slices_Clone_a s_.badBus).bind fun r_6 =>
 some (⟨r_, r_1, r_2, r_3, r_4, r_5, r_6⟩ : State)
def m_flow_feeds (p : Plant) (s_ : State) (k : Int) : Option Bool :=
 asO (((0 : Int) ≤ k ∧ k < (s_.on_.length : Int)) ∧ (gB [((at' s_.on_ k.toNat), true)] = true → (0 : Int) ≤ k ∧ k < (s_.badSource.length : Int)) ∧ (gB [((bif (at' s_.on_ k.toNat) then (!(at' s_.badSource k.toNat)) else false), true)] = true → (0 : Int) ≤ k ∧ k < (p.sources.length : Int)) ∧ (gB [((bif (at' s_.on_ k.toNat) then (!(at' s_.badSource k.toNat)) else false), true)] = true → (0 : Int) ≤ (at' p.sources k.toNat).bus ∧ (at' p.sources k.toNat).bus < (s_.badBus.length : Int))) (
 some (bif (bif (at' s_.on_ k.toNat) then (!(at' s_.badSource k.toNat)) else false) then (!(at' s_.badBus (((at' p.sources k.toNat).bus).toNat))) else false))
def m_flow_conducts (p : Plant) (s_ : State) (i : Int) : Option Bool :=
 asO ((0 : Int) ≤ i ∧ i < (p.links.length : Int)) (
 asO (((0 : Int) ≤ i ∧ i < (s_.closed.length : Int)) ∧ (gB [((at' s_.closed i.toNat), true)] = true → (0 : Int) ≤ i ∧ i < (s_.badLink.length : Int)) ∧ (gB [((bif (at' s_.closed i.toNat) then (!(at' s_.badLink i.toNat)) else false), true)] = true → (0 : Int) ≤ (at' p.links i.toNat).a ∧ (at' p.links i.toNat).a < (s_.badBus.length : Int)) ∧ (gB [((bif (bif (at' s_.closed i.toNat) then (!(at' s_.badLink i.toNat)) else false) then (!(at' s_.badBus (((at' p.links i.toNat).a).toNat))) else false), true)] = true → (0 : Int) ≤ (at' p.links i.toNat).b ∧ (at' p.links i.toNat).b < (s_.badBus.length : Int))) (
 some (bif (bif (bif (at' s_.closed i.toNat) then (!(at' s_.badLink i.toNat)) else false) then (!(at' s_.badBus (((at' p.links i.toNat).a).toNat))) else false) then (!(at' s_.badBus (((at' p.links i.toNat).b).toNat))) else false)))
def m_slices_Clone112 (s_ : (List Int)) (s_nn : Bool) : Option (List Int) :=
 bif (!s_nn) then
 some ([] : List Int)
 else
 asO (((([] : List Int).length + s_.length) * 8 ≤ 140737488355328) ∧ (([] : List Int).length + s_.length ≤ 4611686018427387904)) (
 some (([] : List Int) ++ s_))
def m_slices_Clone112_a (s : (List Int)) : Option (List Int) := m_slices_Clone112 s true
def m_cmp_isNaN (x : Int) : Option Bool :=
 some (!decide (x = x))
def m_cmp_Compare (x : Int) (y : Int) : Option Int :=
 (m_cmp_isNaN x).bind fun r_ =>
 (m_cmp_isNaN y).bind fun r_1 =>
 bif r_ then
 bif r_1 then
 some 0
 else
 some (-1)
 else
 bif r_1 then
 some 1
 else
 bif (decide (x < y)) then
 some (-1)
 else
 bif (decide (y < x)) then
 some 1
 else
 some 0
def m_slices_Compare_L0 (s1 : (List Int)) (s2 : (List Int)) : Int → Option (Flow Int (Ex Unit Int)) :=
 fun t11 =>
 bif (decide (t11 < (s1.length : Int))) then
 asO ((0 : Int) ≤ t11 ∧ t11 < (s1.length : Int)) (
 bif (decide ((s2.length : Int) ≤ t11)) then
 some (.done (.ret 1))
 else
 asO ((0 : Int) ≤ t11 ∧ t11 < (s2.length : Int)) (
 (m_cmp_Compare (at' s1 t11.toNat) (at' s2 t11.toNat)).bind fun r_ =>
 bif (!decide (r_ = 0)) then
 some (.done (.ret r_))
 else
 some (.next (IntKind.wrap .i64 (t11 + 1)))))
 else
 some (.done (.brk ()))
def m_slices_Compare (s1 : (List Int)) (s2 : (List Int)) : Option Int :=
 Option.bind (loopO (m_slices_Compare_L0 s1 s2) FUEL (0)) fun o => match o with
 | .ret v => some v
 | .brk _ =>
 bif (decide ((s1.length : Int) < (s2.length : Int))) then
 some (-1)
 else
 some 0
def m_cmp_Or_L0 (vals : (List Int)) : Int → Option (Flow Int (Ex Unit Int)) :=
 fun t8 =>
 bif (decide (t8 < (vals.length : Int))) then
 asO ((0 : Int) ≤ t8 ∧ t8 < (vals.length : Int)) (
 bif (!decide ((at' vals t8.toNat) = 0)) then
 some (.done (.ret (at' vals t8.toNat)))
 else
 some (.next (IntKind.wrap .i64 (t8 + 1))))
 else
 some (.done (.brk ()))
def m_cmp_Or (vals : (List Int)) : Option Int :=
 Option.bind (loopO (m_cmp_Or_L0 vals) FUEL (0)) fun o => match o with
 | .ret v => some v
 | .brk _ =>
 some 0
def m_flow_ways_1 (a : Way) (b : Way) : Option Bool :=
 bif (!b.there) then
 some true
 else
 (m_slices_Compare a.links b.links).bind fun r_ =>
 (m_cmp_Or [(IntKind.wrap .i64 (a.ohm - b.ohm)), (IntKind.wrap .i64 ((a.links.length : Int) - (b.links.length : Int))), r_]).bind fun r_1 =>
 some (decide (r_1 < 0))
def m_flow_ways_L2 (p : Plant) (t28 : Int) : ((List Way) × Bool × Int) → Option (Flow ((List Way) × Bool × Int) (Ex ((List Way) × Bool) (Flow ((List Way) × Bool × Int) (Ex ((List Way) × Bool) (Flow ((List Way) × Bool) (Ex (List Way) (List Way))))))) :=
 fun zz => match zz with
 | (out4, changed3, t49) =>
 bif (decide (t49 < 2)) then
 asO ((0 : Int) ≤ t49 ∧ t49 < ((2 : Nat) : Int)) (
 asO ((0 : Int) ≤ (at' [(⟨(at' p.links t28.toNat).a, (at' p.links t28.toNat).b⟩ : Arr2Int), (⟨(at' p.links t28.toNat).b, (at' p.links t28.toNat).a⟩ : Arr2Int)] t49.toNat).e0 ∧ (at' [(⟨(at' p.links t28.toNat).a, (at' p.links t28.toNat).b⟩ : Arr2Int), (⟨(at' p.links t28.toNat).b, (at' p.links t28.toNat).a⟩ : Arr2Int)] t49.toNat).e0 < (out4.length : Int)) (
 bif (!((at' out4 (((at' [(⟨(at' p.links t28.toNat).a, (at' p.links t28.toNat).b⟩ : Arr2Int), (⟨(at' p.links t28.toNat).b, (at' p.links t28.toNat).a⟩ : Arr2Int)] t49.toNat).e0).toNat)).there)) then
 some (.next (out4, changed3, (IntKind.wrap .i64 (t49 + 1))))
 else
 (m_slices_Clone112_a ((at' out4 (((at' [(⟨(at' p.links t28.toNat).a, (at' p.links t28.toNat).b⟩ : Arr2Int), (⟨(at' p.links t28.toNat).b, (at' p.links t28.toNat).a⟩ : Arr2Int)] t49.toNat).e0).toNat)).links)).bind fun r_1 =>
 asO (((r_1.length + [t28].length) * 8 ≤ 140737488355328) ∧ (r_1.length + [t28].length ≤ 4611686018427387904)) (
 (m_flow_ways_1 (⟨true, (IntKind.wrap .i64 (((at' out4 (((at' [(⟨(at' p.links t28.toNat).a, (at' p.links t28.toNat).b⟩ : Arr2Int), (⟨(at' p.links t28.toNat).b, (at' p.links t28.toNat).a⟩ : Arr2Int)] t49.toNat).e0).toNat)).ohm) + ((at' p.links t28.toNat).ohm))), (r_1 ++ [t28])⟩ : Way) (at' out4 (((at' [(⟨(at' p.links t28.toNat).a, (at' p.links t28.toNat).b⟩ : Arr2Int), (⟨(at' p.links t28.toNat).b, (at' p.links t28.toNat).a⟩ : Arr2Int)] t49.toNat).e1).toNat))).bind fun r_2 =>
 asO ((0 : Int) ≤ (at' [(⟨(at' p.links t28.toNat).a, (at' p.links t28.toNat).b⟩ : Arr2Int), (⟨(at' p.links t28.toNat).b, (at' p.links t28.toNat).a⟩ : Arr2Int)] t49.toNat).e1 ∧ (at' [(⟨(at' p.links t28.toNat).a, (at' p.links t28.toNat).b⟩ : Arr2Int), (⟨(at' p.links t28.toNat).b, (at' p.links t28.toNat).a⟩ : Arr2Int)] t49.toNat).e1 < (out4.length : Int)) (
 bif r_2 then
 asO ((0 : Int) ≤ (at' [(⟨(at' p.links t28.toNat).a, (at' p.links t28.toNat).b⟩ : Arr2Int), (⟨(at' p.links t28.toNat).b, (at' p.links t28.toNat).a⟩ : Arr2Int)] t49.toNat).e1 ∧ (at' [(⟨(at' p.links t28.toNat).a, (at' p.links t28.toNat).b⟩ : Arr2Int), (⟨(at' p.links t28.toNat).b, (at' p.links t28.toNat).a⟩ : Arr2Int)] t49.toNat).e1 < (out4.length : Int)) (
 some (.next ((out4.set (((at' [(⟨(at' p.links t28.toNat).a, (at' p.links t28.toNat).b⟩ : Arr2Int), (⟨(at' p.links t28.toNat).b, (at' p.links t28.toNat).a⟩ : Arr2Int)] t49.toNat).e1).toNat) (⟨true, (IntKind.wrap .i64 (((at' out4 (((at' [(⟨(at' p.links t28.toNat).a, (at' p.links t28.toNat).b⟩ : Arr2Int), (⟨(at' p.links t28.toNat).b, (at' p.links t28.toNat).a⟩ : Arr2Int)] t49.toNat).e0).toNat)).ohm) + ((at' p.links t28.toNat).ohm))), (r_1 ++ [t28])⟩ : Way)), true, (IntKind.wrap .i64 (t49 + 1)))))
 else
 some (.next (out4, changed3, (IntKind.wrap .i64 (t49 + 1))))))))
 else
 some (.done (.brk (out4, changed3)))
def m_flow_ways_L1 (p : Plant) (s_ : State) : ((List Way) × Bool × Int) → Option (Flow ((List Way) × Bool × Int) (Ex ((List Way) × Bool) (Flow ((List Way) × Bool) (Ex (List Way) (List Way))))) :=
 fun zz => match zz with
 | (out2, changed1, t28) =>
 bif (decide (t28 < (p.links.length : Int))) then
 asO ((0 : Int) ≤ t28 ∧ t28 < (p.links.length : Int)) (
 (m_flow_conducts p s_ t28).bind fun r_ =>
 bif (!r_) then
 some (.next (out2, changed1, (IntKind.wrap .i64 (t28 + 1))))
 else
 Option.bind (loopO (m_flow_ways_L2 p t28) FUEL (out2, changed1, 0)) fun o => match o with
 | .ret v => some v
 | .brk (out5, changed4) =>
 some (.next (out5, changed4, (IntKind.wrap .i64 (t28 + 1)))))
 else
 some (.done (.brk (out2, changed1)))
def m_flow_ways_L0 (p : Plant) (s_ : State) : ((List Way) × Bool) → Option (Flow ((List Way) × Bool) (Ex (List Way) (List Way))) :=
 fun zz => match zz with
 | (out, changed) =>
 bif changed then
 Option.bind (loopO (m_flow_ways_L1 p s_) FUEL (out, false, 0)) fun o => match o with
 | .ret v => some v
 | .brk (out3, changed2) =>
 some (.next (out3, changed2))
 else
 some (.done (.brk out))
def m_flow_ways (p : Plant) (s_ : State) (bus : Int) : Option (List Way) :=
 asO (((0 : Int) ≤ p.buses) ∧ ((40 : Int) * p.buses ≤ 281474976710656) ∧ ((p.buses : Int) ≤ 9223372036854775807)) (
 asO ((0 : Int) ≤ bus ∧ bus < ((List.replicate p.buses.toNat ((⟨false, 0, ([] : List Int)⟩ : Way) : Way)).length : Int)) (
 Option.bind (loopO (m_flow_ways_L0 p s_) FUEL (((List.replicate p.buses.toNat ((⟨false, 0, ([] : List Int)⟩ : Way) : Way)).set bus.toNat (⟨true, (at' (List.replicate p.buses.toNat ((⟨false, 0, ([] : List Int)⟩ : Way) : Way)) bus.toNat).ohm, (at' (List.replicate p.buses.toNat ((⟨false, 0, ([] : List Int)⟩ : Way) : Way)) bus.toNat).links⟩ : Way)), true)) fun o => match o with
 | .ret v => some v
 | .brk out1 =>
 some out1))
def m_flow_Shorts_L0 (p : Plant) (s_ : State) (bus : Int) : ((List Short) × Int) → Option (Flow ((List Short) × Int) (Ex (List Short) ((List Short) × Int))) :=
 fun zz => match zz with
 | (out, t31) =>
 bif (decide (t31 < (p.sources.length : Int))) then
 asO ((0 : Int) ≤ t31 ∧ t31 < (p.sources.length : Int)) (
 (bif gB [((at' s_.badBus bus.toNat), false)] then m_flow_feeds p s_ t31 else some default).bind fun r_1 =>
 asO ((0 : Int) ≤ bus ∧ bus < (s_.badBus.length : Int)) (
 bif (bif (at' s_.badBus bus.toNat) then true else (!r_1)) then
 some (.next (out, (IntKind.wrap .i64 (t31 + 1))))
 else
 (m_flow_ways p s_ ((at' p.sources t31.toNat).bus)).bind fun r_2 =>
 asO ((0 : Int) ≤ bus ∧ bus < (r_2.length : Int)) (
 bif ((at' r_2 bus.toNat).there) then
 asO (((IntKind.wrap .i64 (((at' p.sources t31.toNat).ohm) + ((at' r_2 bus.toNat).ohm))) ≠ (0 : Int)) ∧ ((out.length + [(⟨t31, (IntKind.wrap .i64 (((at' p.sources t31.toNat).ohm) + ((at' r_2 bus.toNat).ohm))), (IntKind.wrap .i64 (Int.tdiv (IntKind.wrap .i64 ((IntKind.wrap .i64 ((400000 : Int) + (IntKind.wrap .i64 (((at' p.sources t31.toNat).ohm) + ((at' r_2 bus.toNat).ohm))))) - 1)) (IntKind.wrap .i64 (((at' p.sources t31.toNat).ohm) + ((at' r_2 bus.toNat).ohm))))), (at' r_2 bus.toNat).links⟩ : Short)].length) * 48 ≤ 140737488355328) ∧ (out.length + [(⟨t31, (IntKind.wrap .i64 (((at' p.sources t31.toNat).ohm) + ((at' r_2 bus.toNat).ohm))), (IntKind.wrap .i64 (Int.tdiv (IntKind.wrap .i64 ((IntKind.wrap .i64 ((400000 : Int) + (IntKind.wrap .i64 (((at' p.sources t31.toNat).ohm) + ((at' r_2 bus.toNat).ohm))))) - 1)) (IntKind.wrap .i64 (((at' p.sources t31.toNat).ohm) + ((at' r_2 bus.toNat).ohm))))), (at' r_2 bus.toNat).links⟩ : Short)].length ≤ 4611686018427387904)) (
 some (.next ((out ++ [(⟨t31, (IntKind.wrap .i64 (((at' p.sources t31.toNat).ohm) + ((at' r_2 bus.toNat).ohm))), (IntKind.wrap .i64 (Int.tdiv (IntKind.wrap .i64 ((IntKind.wrap .i64 ((400000 : Int) + (IntKind.wrap .i64 (((at' p.sources t31.toNat).ohm) + ((at' r_2 bus.toNat).ohm))))) - 1)) (IntKind.wrap .i64 (((at' p.sources t31.toNat).ohm) + ((at' r_2 bus.toNat).ohm))))), (at' r_2 bus.toNat).links⟩ : Short)]), (IntKind.wrap .i64 (t31 + 1)))))
 else
 some (.next (out, (IntKind.wrap .i64 (t31 + 1)))))))
 else
 some (.done (.brk out))
def m_flow_Shorts (p : Plant) (s_ : State) (bus : Int) : Option ((List Short) × Int) :=
 (m_plant_CheckState p s_).bind fun r_ =>
 bif (!decide (r_ = 0)) then
 some (([] : List Short), r_)
 else
 bif (bif (decide (bus < 0)) then true else (decide (p.buses ≤ bus))) then
 some (([] : List Short), 1)
 else
 Option.bind (loopO (m_flow_Shorts_L0 p s_ bus) FUEL (([] : List Short), 0)) fun o => match o with
 | .ret v => some v
 | .brk out1 =>
 some (out1, 0)
def m_slices_Index_L0 (s_ : (List Int)) (v_ : Int) : Int → Option (Flow Int (Ex Unit Int)) :=
 fun t8 =>
 bif (decide (t8 < (s_.length : Int))) then
 asO ((0 : Int) ≤ t8 ∧ t8 < (s_.length : Int)) (
 bif (decide (v_ = (at' s_ t8.toNat))) then
 some (.done (.ret t8))
 else
 some (.next (IntKind.wrap .i64 (t8 + 1))))
 else
 some (.done (.brk ()))
def m_slices_Index (s_ : (List Int)) (v_ : Int) : Option Int :=
 Option.bind (loopO (m_slices_Index_L0 s_ v_) FUEL (0)) fun o => match o with
 | .ret v => some v
 | .brk _ =>
 some (-1)
def m_slices_Contains (s_ : (List Int)) (v_ : Int) : Option Bool :=
 (m_slices_Index s_ v_).bind fun r_ =>
 some (decide (0 ≤ r_))
def m_flow_Through_1 (i : Int) (o_ : (List Int)) : Option Bool :=
 some (bif (decide (i < 0)) then true else (decide ((o_.length : Int) ≤ i)))
def m_slices_IndexFunc113_L0 (s_ : (List Int)) (o_ : (List Int)) : Int → Option (Flow Int (Ex Unit Int)) :=
 fun t8 =>
 bif (decide (t8 < (s_.length : Int))) then
 (m_flow_Through_1 (at' s_ t8.toNat) o_).bind fun r_ =>
 asO ((0 : Int) ≤ t8 ∧ t8 < (s_.length : Int)) (
 bif r_ then
 some (.done (.ret t8))
 else
 some (.next (IntKind.wrap .i64 (t8 + 1))))
 else
 some (.done (.brk ()))
def m_slices_IndexFunc113 (s_ : (List Int)) (o_ : (List Int)) : Option Int :=
 Option.bind (loopO (m_slices_IndexFunc113_L0 s_ o_) FUEL (0)) fun o => match o with
 | .ret v => some v
 | .brk _ =>
 some (-1)
def m_slices_ContainsFunc67 (s_ : (List Int)) (o_ : (List Int)) : Option Bool :=
 (m_slices_IndexFunc113 s_ o_).bind fun r_ =>
 some (decide (0 ≤ r_))
def m_flow_Through_L1 (l : (List Short)) (out0 : (List Int)) (t25 : Int) : ((List Int) × Int) → Option (Flow ((List Int) × Int) (Ex (List Int) (Flow ((List Int) × Int) (Ex (List Int) ((List Int) × Bool × Int))))) :=
 fun zz => match zz with
 | (out02, t45) =>
 bif (decide (t45 < (out0.length : Int))) then
 (m_slices_Contains ((at' l t25.toNat).links) t45).bind fun r_2 =>
 bif r_2 then
 asO ((0 : Int) ≤ t45 ∧ t45 < (out02.length : Int)) (
 some (.next ((out02.set t45.toNat (IntKind.wrap .i64 ((at' out02 t45.toNat) + ((at' l t25.toNat).amps)))), (IntKind.wrap .i64 (t45 + 1)))))
 else
 some (.next (out02, (IntKind.wrap .i64 (t45 + 1))))
 else
 some (.done (.brk out02))
def m_flow_Through_L0 (l : (List Short)) : ((List Int) × Int) → Option (Flow ((List Int) × Int) (Ex (List Int) ((List Int) × Bool × Int))) :=
 fun zz => match zz with
 | (out0, t25) =>
 bif (decide (t25 < (l.length : Int))) then
 asO ((0 : Int) ≤ t25 ∧ t25 < (l.length : Int)) (
 (bif gB [((bif (decide (((at' l t25.toNat).amps) < 0)) then true else (decide (1000000 < ((at' l t25.toNat).amps)))), false)] then m_slices_ContainsFunc67 ((at' l t25.toNat).links) out0 else some default).bind fun r_1 =>
 bif (bif (bif (decide (((at' l t25.toNat).amps) < 0)) then true else (decide (1000000 < ((at' l t25.toNat).amps)))) then true else r_1) then
 some (.done (.ret (([] : List Int), false, 1)))
 else
 Option.bind (loopO (m_flow_Through_L1 l out0 t25) FUEL (out0, 0)) fun o => match o with
 | .ret v => some v
 | .brk out03 =>
 some (.next (out03, (IntKind.wrap .i64 (t25 + 1)))))
 else
 some (.done (.brk out0))
def m_flow_Through (p : Plant) (l : (List Short)) : Option ((List Int) × Bool × Int) :=
 (m_plant_Check p).bind fun r_ =>
 bif (!decide (r_ = 0)) then
 some (([] : List Int), false, r_)
 else
 bif (decide (8 < (l.length : Int))) then
 some (([] : List Int), false, 1)
 else
 asO (((0 : Int) ≤ (p.links.length : Int)) ∧ ((8 : Int) * (p.links.length : Int) ≤ 281474976710656) ∧ (((p.links.length : Int) : Int) ≤ 9223372036854775807)) (
 Option.bind (loopO (m_flow_Through_L0 l) FUEL ((List.replicate ((p.links.length : Int).toNat) (0 : Int)), 0)) fun o => match o with
 | .ret v => some v
 | .brk out01 =>
 some (out01, true, 0))
def m_guard_machine_look_L0 (r_ : ((List Short) × Int)) : (Int × Int) → Option (Flow (Int × Int) (Ex Int (Machine × Bool))) :=
 fun zz => match zz with
 | (o17, t41) =>
 bif (decide (t41 < (r_.1.length : Int))) then
 asO ((0 : Int) ≤ t41 ∧ t41 < (r_.1.length : Int)) (
 some (.next ((IntKind.wrap .i64 (o17 + ((at' r_.1 t41.toNat).amps))), (IntKind.wrap .i64 (t41 + 1)))))
 else
 some (.done (.brk o17))
def m_guard_machine_look_L1 (machine : Machine) (machine_nn : Bool) (r_1 : ((List Int) × Bool × Int)) : ((List (Int × Int)) × Int) → Option (Flow ((List (Int × Int)) × Int) (Ex (List (Int × Int)) (Machine × Bool))) :=
 fun zz => match zz with
 | (o18, t57) =>
 bif (decide (t57 < (r_1.1.length : Int))) then
 asO ((0 : Int) ≤ t57 ∧ t57 < (r_1.1.length : Int)) (
 asO (gB [((!machine_nn), false)] = true → (0 : Int) ≤ t57 ∧ t57 < (machine.amps.length : Int)) (
 bif (bif (!machine_nn) then true else (!decide ((at' machine.amps t57.toNat) = (at' r_1.1 t57.toNat)))) then
 some (.next ((mset eqI t57 machine.now o18), (IntKind.wrap .i64 (t57 + 1))))
 else
 some (.next (o18, (IntKind.wrap .i64 (t57 + 1))))))
 else
 some (.done (.brk o18))
def m_guard_machine_look (machine : Machine) (machine_nn : Bool) : Option (Machine × Bool) :=
 (m_flow_Shorts machine.p machine.clearing.state machine.bus).bind fun r_ =>
 (m_flow_Through machine.p r_.1).bind fun r_1 =>
 Option.bind (loopO (m_guard_machine_look_L0 r_) FUEL (0, 0)) fun o => match o with
 | .ret v => some v
 | .brk o171 =>
 Option.bind (loopO (m_guard_machine_look_L1 machine machine_nn r_1) FUEL (machine.since, 0)) fun o => match o with
 | .ret v => some v
 | .brk o181 =>
 some ((⟨machine.clearing, machine.p, machine.bus, r_1.1, o171, o181, machine.now⟩ : Machine), r_1.2.1)
def m_guard_machine_armed (machine : Machine) (machine_nn : Bool) : Option Unit :=
 some ()
def m_guard_Delay_L0 (x : Link) (amps : Int) : Int → Option (Flow Int (Ex Unit (Int × Bool))) :=
 fun i =>
 bif (decide (0 ≤ i)) then
 asO ((0 : Int) ≤ i ∧ i < (x.trip.length : Int)) (
 bif (decide (((at' x.trip i.toNat).amps) ≤ amps)) then
 asO ((0 : Int) ≤ i ∧ i < (x.trip.length : Int)) (
 some (.done (.ret ((at' x.trip i.toNat).millis, true))))
 else
 some (.next (IntKind.wrap .i64 (i - 1))))
 else
 some (.done (.brk ()))
def m_guard_Delay (x : Link) (amps : Int) : Option (Int × Bool) :=
 Option.bind (loopO (m_guard_Delay_L0 x amps) FUEL (IntKind.wrap .i64 ((x.trip.length : Int) - 1))) fun o => match o with
 | .ret v => some v
 | .brk _ =>
 some (0, false)
def m_guard_machine_round_r0_Y (x13 : Int) (x14 : Int) (int : Int) : Option Int :=
 bif (bif (decide (int < 0)) then true else (decide (x14 < int))) then
 some x14
 else
 some int
def m_guard_machine_armed_1_L0 (machine : Machine) : (Int × Int) → Option (Flow (Int × Int) (Ex Int Int)) :=
 fun zz => match zz with
 | (o30, t13) =>
 bif (decide (t13 < (machine.p.links.length : Int))) then
 asO ((0 : Int) ≤ t13 ∧ t13 < (machine.p.links.length : Int)) (
 asO ((gB [((!decide (((at' machine.p.links t13.toNat).kind) = 3)), false)] = true → (0 : Int) ≤ t13 ∧ t13 < (machine.clearing.state.closed.length : Int)) ∧ (gB [((bif (!decide (((at' machine.p.links t13.toNat).kind) = 3)) then true else (!(at' machine.clearing.state.closed t13.toNat))), false)] = true → (0 : Int) ≤ t13 ∧ t13 < (machine.clearing.state.badLink.length : Int))) (
 bif (bif (bif (!decide (((at' machine.p.links t13.toNat).kind) = 3)) then true else (!(at' machine.clearing.state.closed t13.toNat))) then true else (at' machine.clearing.state.badLink t13.toNat)) then
 some (.next (o30, (IntKind.wrap .i64 (t13 + 1))))
 else
 (m_guard_Delay (at' machine.p.links t13.toNat) (at' machine.amps t13.toNat)).bind fun r_ =>
 asO ((0 : Int) ≤ t13 ∧ t13 < (machine.amps.length : Int)) (
 bif r_.2 then
 (m_guard_machine_round_r0_Y t13 (IntKind.wrap .i64 (((mget eqI t13 machine.since).getD 0) + r_.1)) o30).bind fun r_1 =>
 bif (!true) then
 some (.done (.ret r_1))
 else
 some (.next (r_1, (IntKind.wrap .i64 (t13 + 1))))
 else
 some (.next (o30, (IntKind.wrap .i64 (t13 + 1)))))))
 else
 some (.done (.brk o30))
def m_guard_machine_armed_1 (int : Int) (machine : Machine) (machine_nn : Bool) : Option Int :=
 Option.bind (loopO (m_guard_machine_armed_1_L0 machine) FUEL (int, 0)) fun o => match o with
 | .ret v => some v
 | .brk o301 =>
 some o301
def m_guard_machine_round_r1_Y (x33 : Int) (x34 : Int) (int : Int) (o_ : (List Int)) : Option (List Int) :=
 bif (decide (x34 ≤ int)) then
 asO (((o_.length + [x33].length) * 8 ≤ 140737488355328) ∧ (o_.length + [x33].length ≤ 4611686018427387904)) (
 some (o_ ++ [x33]))
 else
 some o_
def m_guard_machine_armed_1_v1_L0 (int : Int) (machine : Machine) : ((List Int) × Int) → Option (Flow ((List Int) × Int) (Ex (List Int) (List Int))) :=
 fun zz => match zz with
 | (o60, t13) =>
 bif (decide (t13 < (machine.p.links.length : Int))) then
 asO ((0 : Int) ≤ t13 ∧ t13 < (machine.p.links.length : Int)) (
 asO ((gB [((!decide (((at' machine.p.links t13.toNat).kind) = 3)), false)] = true → (0 : Int) ≤ t13 ∧ t13 < (machine.clearing.state.closed.length : Int)) ∧ (gB [((bif (!decide (((at' machine.p.links t13.toNat).kind) = 3)) then true else (!(at' machine.clearing.state.closed t13.toNat))), false)] = true → (0 : Int) ≤ t13 ∧ t13 < (machine.clearing.state.badLink.length : Int))) (
 bif (bif (bif (!decide (((at' machine.p.links t13.toNat).kind) = 3)) then true else (!(at' machine.clearing.state.closed t13.toNat))) then true else (at' machine.clearing.state.badLink t13.toNat)) then
 some (.next (o60, (IntKind.wrap .i64 (t13 + 1))))
 else
 (m_guard_Delay (at' machine.p.links t13.toNat) (at' machine.amps t13.toNat)).bind fun r_ =>
 asO ((0 : Int) ≤ t13 ∧ t13 < (machine.amps.length : Int)) (
 bif r_.2 then
 (m_guard_machine_round_r1_Y t13 (IntKind.wrap .i64 (((mget eqI t13 machine.since).getD 0) + r_.1)) int o60).bind fun r_1 =>
 bif (!true) then
 some (.done (.ret r_1))
 else
 some (.next (r_1, (IntKind.wrap .i64 (t13 + 1))))
 else
 some (.next (o60, (IntKind.wrap .i64 (t13 + 1)))))))
 else
 some (.done (.brk o60))
def m_guard_machine_armed_1_v1 (int : Int) (o_ : (List Int)) (machine : Machine) (machine_nn : Bool) : Option (List Int) :=
 Option.bind (loopO (m_guard_machine_armed_1_v1_L0 int machine) FUEL (o_, 0)) fun o => match o with
 | .ret v => some v
 | .brk o601 =>
 some o601
def m_guard_machine_round_L0 (machine : Machine) (r_1 : Int) (r_3 : (List Int)) : ((List Event) × (List Bool) × Int) → Option (Flow ((List Event) × (List Bool) × Int) (Ex ((List Event) × (List Bool)) (Bool × Machine × Bool))) :=
 fun zz => match zz with
 | (o0, o4, t92) =>
 bif (decide (t92 < (r_3.length : Int))) then
 asO ((0 : Int) ≤ t92 ∧ t92 < (r_3.length : Int)) (
 asO ((0 : Int) ≤ (at' r_3 t92.toNat) ∧ (at' r_3 t92.toNat) < (o4.length : Int)) (
 asO (((o0.length + [(⟨(if r_1 < machine.now then machine.now else r_1), (at' r_3 t92.toNat)⟩ : Event)].length) * 16 ≤ 140737488355328) ∧ (o0.length + [(⟨(if r_1 < machine.now then machine.now else r_1), (at' r_3 t92.toNat)⟩ : Event)].length ≤ 4611686018427387904)) (
 some (.next ((o0 ++ [(⟨(if r_1 < machine.now then machine.now else r_1), (at' r_3 t92.toNat)⟩ : Event)]), (o4.set ((at' r_3 t92.toNat).toNat) false), (IntKind.wrap .i64 (t92 + 1)))))))
 else
 some (.done (.brk (o0, o4)))
def m_guard_machine_round (machine : Machine) (machine_nn : Bool) : Option (Bool × Machine × Bool) :=
 (m_guard_machine_armed machine machine_nn).bind fun r_ =>
 (m_guard_machine_armed_1 (-1) machine machine_nn).bind fun r_1 =>
 bif (decide (r_1 < 0)) then
 some (false, machine, machine_nn)
 else
 (m_guard_machine_armed machine machine_nn).bind fun r_2 =>
 (m_guard_machine_armed_1_v1 (if r_1 < machine.now then machine.now else r_1) ([] : List Int) machine machine_nn).bind fun r_3 =>
 asO (1000 ≠ (0 : Int)) (
 (m_slices_Clone_a machine.clearing.state.closed).bind fun r_4 =>
 Option.bind (loopO (m_guard_machine_round_L0 machine r_1 r_3) FUEL (machine.clearing.events, r_4, 0)) fun o => match o with
 | .ret v => some v
 | .brk (o01, o41) =>
 some (true, (⟨(⟨o01, machine.clearing.cleared, (if r_1 < machine.now then machine.now else r_1), (IntKind.wrap .i64 (machine.clearing.energy + (IntKind.wrap .i64 ((IntKind.wrap .i64 (Int.tdiv (IntKind.wrap .i64 ((IntKind.wrap .i64 (machine.total * machine.total)) + 999)) 1000)) * (IntKind.wrap .i64 ((if r_1 < machine.now then machine.now else r_1) - machine.now)))))), (⟨o41, machine.clearing.state.locked, machine.clearing.state.badLink, machine.clearing.state.on_, machine.clearing.state.badSource, machine.clearing.state.earthed, machine.clearing.state.badBus⟩ : State)⟩ : Clearing), machine.p, machine.bus, machine.amps, machine.total, machine.since, (if r_1 < machine.now then machine.now else r_1)⟩ : Machine), machine_nn))
def m_guard_machine_run_L0  : ((List Event) × Bool × Int × Int × (List Bool) × (List Bool) × (List Bool) × (List Bool) × (List Bool) × (List Bool) × (List Bool) × Int × (List Source) × (List Link) × (List Rack) × Int × Bool × (List Int) × Int × (List (Int × Int)) × Int) → Option (Flow ((List Event) × Bool × Int × Int × (List Bool) × (List Bool) × (List Bool) × (List Bool) × (List Bool) × (List Bool) × (List Bool) × Int × (List Source) × (List Link) × (List Rack) × Int × Bool × (List Int) × Int × (List (Int × Int)) × Int) (Ex Unit (Clearing × (List (Int × Int))))) :=
 fun zz => match zz with
 | (o0, o1, o2, o3, o4, o5, o6, o7, o8, o9, o10, o11, o12, o13, o14, o15, o16_nn, o16, o17, o18, o19) =>
 (m_guard_machine_look (⟨(⟨o0, o1, o2, o3, (⟨o4, o5, o6, o7, o8, o9, o10⟩ : State)⟩ : Clearing), (⟨o11, o12, o13, o14⟩ : Plant), o15, o16, o17, o18, o19⟩ : Machine) o16_nn).bind fun r_ =>
 bif (decide (r_.1.total = 0)) then
 some (.done (.ret ((⟨o0, true, r_.1.clearing.millis, r_.1.clearing.energy, r_.1.clearing.state⟩ : Clearing), r_.1.since)))
 else
 (m_guard_machine_round (⟨(⟨o0, r_.1.clearing.cleared, r_.1.clearing.millis, r_.1.clearing.energy, r_.1.clearing.state⟩ : Clearing), r_.1.p, r_.1.bus, r_.1.amps, r_.1.total, r_.1.since, r_.1.now⟩ : Machine) r_.2).bind fun r_1 =>
 bif r_1.1 then
 some (.next (r_1.2.1.clearing.events, r_1.2.1.clearing.cleared, r_1.2.1.clearing.millis, r_1.2.1.clearing.energy, r_1.2.1.clearing.state.closed, r_1.2.1.clearing.state.locked, r_1.2.1.clearing.state.badLink, r_1.2.1.clearing.state.on_, r_1.2.1.clearing.state.badSource, r_1.2.1.clearing.state.earthed, r_1.2.1.clearing.state.badBus, r_1.2.1.p.buses, r_1.2.1.p.sources, r_1.2.1.p.links, r_1.2.1.p.racks, r_1.2.1.bus, r_1.2.2, r_1.2.1.amps, r_1.2.1.total, r_.1.since, r_1.2.1.now))
 else
 some (.done (.ret (r_1.2.1.clearing, r_.1.since)))
def m_guard_machine_run (machine : Machine) (machine_nn : Bool) : Option (Clearing × (List (Int × Int))) :=
 Option.bind (loopO m_guard_machine_run_L0 FUEL (machine.clearing.events, machine.clearing.cleared, machine.clearing.millis, machine.clearing.energy, machine.clearing.state.closed, machine.clearing.state.locked, machine.clearing.state.badLink, machine.clearing.state.on_, machine.clearing.state.badSource, machine.clearing.state.earthed, machine.clearing.state.badBus, machine.p.buses, machine.p.sources, machine.p.links, machine.p.racks, machine.bus, machine_nn, machine.amps, machine.total, machine.since, machine.now)) fun o => match o with
 | .ret v => some v
 | .brk _ => none
def m_guard_Clear (p : Plant) (s_ : State) (bus : Int) : Option (Clearing × Int) :=
 (m_plant_CheckState p s_).bind fun r_ =>
 bif (!decide (r_ = 0)) then
 some ((⟨([] : List Event), false, 0, 0, (⟨([] : List Bool), ([] : List Bool), ([] : List Bool), ([] : List Bool), ([] : List Bool), ([] : List Bool), ([] : List Bool)⟩ : State)⟩ : Clearing), r_)
 else
 bif (bif (decide (bus < 0)) then true else (decide (p.buses ≤ bus))) then
 some ((⟨([] : List Event), false, 0, 0, (⟨([] : List Bool), ([] : List Bool), ([] : List Bool), ([] : List Bool), ([] : List Bool), ([] : List Bool), ([] : List Bool)⟩ : State)⟩ : Clearing), 1)
 else
 (m_guard_copied s_).bind fun r_1 =>
 (m_guard_machine_run (⟨(⟨([] : List Event), false, 0, 0, r_1⟩ : Clearing), p, bus, ([] : List Int), 0, ([] : (List (Int × Int))), 0⟩ : Machine) false).bind fun r_2 =>
 some (r_2.1, 0)
def m_kit_SameInts_L0 (a : (List Int)) (b : (List Int)) : Int → Option (Flow Int (Ex Unit Bool)) :=
 fun i =>
 bif (decide (i < (a.length : Int))) then
 asO (((0 : Int) ≤ i ∧ i < (a.length : Int)) ∧ ((0 : Int) ≤ i ∧ i < (b.length : Int))) (
 bif (!decide ((at' a i.toNat) = (at' b i.toNat))) then
 some (.done (.ret false))
 else
 some (.next (IntKind.wrap .i64 (i + 1))))
 else
 some (.done (.brk ()))
def m_kit_SameInts (a : (List Int)) (b : (List Int)) : Option Bool :=
 bif (!decide ((a.length : Int) = (b.length : Int))) then
 some false
 else
 Option.bind (loopO (m_kit_SameInts_L0 a b) FUEL (0)) fun o => match o with
 | .ret v => some v
 | .brk _ =>
 some true
def m_law03_example  : Option (Plant × State) :=
 asO (((0 : Int) ≤ 2) ∧ ((1 : Int) * 2 ≤ 281474976710656) ∧ ((2 : Int) ≤ 9223372036854775807) ∧ ((0 : Int) ≤ 1) ∧ ((1 : Int) * 1 ≤ 281474976710656) ∧ ((1 : Int) ≤ 9223372036854775807) ∧ ((0 : Int) ≤ 3) ∧ ((1 : Int) * 3 ≤ 281474976710656) ∧ ((3 : Int) ≤ 9223372036854775807)) (
 some ((⟨3, [(⟨0, 1, 500, 0, 20⟩ : Source)], [(⟨0, 1, 3, 400, 10, [(⟨1000, 400⟩ : Trip), (⟨10000, 100⟩ : Trip)]⟩ : Link), (⟨1, 2, 3, 400, 10, [(⟨1000, 50⟩ : Trip)]⟩ : Link)], [(⟨(⟨2, (-1)⟩ : Arr2Int), 100, 1⟩ : Rack), (⟨(⟨1, 2⟩ : Arr2Int), 100, 0⟩ : Rack)]⟩ : Plant), (⟨[true, true], (List.replicate 2 (false : Bool)), (List.replicate 2 (false : Bool)), [true], (List.replicate 1 (false : Bool)), (List.replicate 3 (false : Bool)), (List.replicate 3 (false : Bool))⟩ : State)))
def m_guard_near (p : Plant) (i : Int) (bus : Int) : Option Bool :=
 asO (((0 : Int) ≤ i ∧ i < (p.links.length : Int)) ∧ (gB [((decide (((at' p.links i.toNat).a) = bus)), false)] = true → (0 : Int) ≤ i ∧ i < (p.links.length : Int))) (
 some (bif (decide (((at' p.links i.toNat).a) = bus)) then true else (decide (((at' p.links i.toNat).b) = bus))))
def m_guard_Selective_1 (x : Event) (x1 : Int) (x11 : (List Source)) (x12 : (List Link)) (x13 : (List Rack)) (x2 : Int) : Option Bool :=
 (m_guard_near (⟨x1, x11, x12, x13⟩ : Plant) x.link x2).bind fun r_ =>
 some (!r_)
def m_slices_IndexFunc143_L0 (s_ : (List Event)) (f_ : Int) (f_1 : (List Source)) (f_2 : (List Link)) (f_3 : (List Rack)) (f_4 : Int) : Int → Option (Flow Int (Ex Unit Int)) :=
 fun t8 =>
 bif (decide (t8 < (s_.length : Int))) then
 (m_guard_Selective_1 (at' s_ t8.toNat) f_ f_1 f_2 f_3 f_4).bind fun r_ =>
 asO ((0 : Int) ≤ t8 ∧ t8 < (s_.length : Int)) (
 bif r_ then
 some (.done (.ret t8))
 else
 some (.next (IntKind.wrap .i64 (t8 + 1))))
 else
 some (.done (.brk ()))
def m_slices_IndexFunc143 (s_ : (List Event)) (f_ : Int) (f_1 : (List Source)) (f_2 : (List Link)) (f_3 : (List Rack)) (f_4 : Int) : Option Int :=
 Option.bind (loopO (m_slices_IndexFunc143_L0 s_ f_ f_1 f_2 f_3 f_4) FUEL (0)) fun o => match o with
 | .ret v => some v
 | .brk _ =>
 some (-1)
def m_slices_ContainsFunc101 (s_ : (List Event)) (f_ : Int) (f_1 : (List Source)) (f_2 : (List Link)) (f_3 : (List Rack)) (f_4 : Int) : Option Bool :=
 (m_slices_IndexFunc143 s_ f_ f_1 f_2 f_3 f_4).bind fun r_ =>
 some (decide (0 ≤ r_))
def m_guard_Selective (p : Plant) (s_ : State) (bus : Int) : Option (Bool × Int) :=
 (m_guard_Clear p s_ bus).bind fun r_ =>
 bif (!decide (r_.2 = 0)) then
 some (false, r_.2)
 else
 (bif gB [(r_.1.cleared, true)] then m_slices_ContainsFunc101 r_.1.events p.buses p.sources p.links p.racks bus else some default).bind fun r_1 =>
 some ((bif r_.1.cleared then (!r_1) else false), 0)
def m_plant_copied (s_ : State) : Option State :=
 asO ((0 : Int) ≤ 0 ∧ 0 < (7 : Int)) (
 (m_slices_Clone_a s_.closed).bind fun r_ =>
 asO ((0 : Int) ≤ 1 ∧ 1 < (7 : Int)) (
 (m_slices_Clone_a s_.locked).bind fun r_1 =>
 asO ((0 : Int) ≤ 2 ∧ 2 < (7 : Int)) (
 (m_slices_Clone_a s_.badLink).bind fun r_2 =>
 asO ((0 : Int) ≤ 3 ∧ 3 < (7 : Int)) (
 (m_slices_Clone_a s_.on_).bind fun r_3 =>
 asO ((0 : Int) ≤ 4 ∧ 4 < (7 : Int)) (
 (m_slices_Clone_a s_.badSource).bind fun r_4 =>
 asO ((0 : Int) ≤ 5 ∧ 5 < (7 : Int)) (
 (m_slices_Clone_a s_.earthed).bind fun r_5 =>
 asO ((0 : Int) ≤ 6 ∧ 6 < (7 : Int)) (
 (m_slices_Clone_a s_.badBus).bind fun r_6 =>
 some (⟨r_, r_1, r_2, r_3, r_4, r_5, r_6⟩ : State))))))))
def m_plant_failed (p : Plant) (s_ : State) (x : Part) (is : Bool) : Option (State × Int) :=
 (m_plant_CheckState p s_).bind fun r_ =>
 bif (!decide (r_ = 0)) then
 some ((⟨([] : List Bool), ([] : List Bool), ([] : List Bool), ([] : List Bool), ([] : List Bool), ([] : List Bool), ([] : List Bool)⟩ : State), r_)
 else
 (m_plant_copied s_).bind fun r_1 =>
 bif (eqI x.kind 1) then
 (m_plant_within x.index 0 (IntKind.wrap .i64 ((r_1.badBus.length : Int) - 1))).bind fun r_2 =>
 bif (!r_2) then
 some ((⟨([] : List Bool), ([] : List Bool), ([] : List Bool), ([] : List Bool), ([] : List Bool), ([] : List Bool), ([] : List Bool)⟩ : State), 14)
 else
 asO ((0 : Int) ≤ x.index ∧ x.index < (r_1.badBus.length : Int)) (
 some ((⟨r_1.closed, r_1.locked, r_1.badLink, r_1.on_, r_1.badSource, r_1.earthed, (r_1.badBus.set x.index.toNat is)⟩ : State), 0))
 else
 bif (eqI x.kind 2) then
 (m_plant_within x.index 0 (IntKind.wrap .i64 ((r_1.badSource.length : Int) - 1))).bind fun r_3 =>
 bif (!r_3) then
 some ((⟨([] : List Bool), ([] : List Bool), ([] : List Bool), ([] : List Bool), ([] : List Bool), ([] : List Bool), ([] : List Bool)⟩ : State), 14)
 else
 asO ((0 : Int) ≤ x.index ∧ x.index < (r_1.badSource.length : Int)) (
 some ((⟨r_1.closed, r_1.locked, r_1.badLink, r_1.on_, (r_1.badSource.set x.index.toNat is), r_1.earthed, r_1.badBus⟩ : State), 0))
 else
 bif (eqI x.kind 3) then
 (m_plant_within x.index 0 (IntKind.wrap .i64 ((r_1.badLink.length : Int) - 1))).bind fun r_4 =>
 bif (!r_4) then
 some ((⟨([] : List Bool), ([] : List Bool), ([] : List Bool), ([] : List Bool), ([] : List Bool), ([] : List Bool), ([] : List Bool)⟩ : State), 14)
 else
 asO ((0 : Int) ≤ x.index ∧ x.index < (r_1.badLink.length : Int)) (
 some ((⟨r_1.closed, r_1.locked, (r_1.badLink.set x.index.toNat is), r_1.on_, r_1.badSource, r_1.earthed, r_1.badBus⟩ : State), 0))
 else
 (m_plant_within x.index 0 (-1)).bind fun r_5 =>
 bif (!r_5) then
 some ((⟨([] : List Bool), ([] : List Bool), ([] : List Bool), ([] : List Bool), ([] : List Bool), ([] : List Bool), ([] : List Bool)⟩ : State), 14)
 else
 none
def m_plant_Break (p : Plant) (s_ : State) (x : Part) : Option (State × Int) :=
 (m_plant_failed p s_ x true).bind fun r_ =>
 some (r_.1, r_.2)
def m_plant_conducting (p : Plant) (s_ : State) : Option (Int × (List Source) × (List Link) × (List Rack) × (List Bool) × (List Bool) × (List Bool) × (List Bool) × (List Bool) × (List Bool) × (List Bool)) :=
 some (p.buses, p.sources, p.links, p.racks, s_.closed, s_.locked, s_.badLink, s_.on_, s_.badSource, s_.earthed, s_.badBus)
def m_plant_groups_of_v1_L0 (g : Groups_int_) : Int → Option (Flow Int (Ex Unit Int)) :=
 fun x1 =>
 bif (!((mget eqI x1 g.head).isSome)) then
 some (.done (.ret x1))
 else
 some (.next ((mget eqI x1 g.head).getD 0))
def m_plant_groups_of_v1 (g : Groups_int_) (x : Int) : Option Int :=
 Option.bind (loopO (m_plant_groups_of_v1_L0 g) FUEL (x)) fun o => match o with
 | .ret v => some v
 | .brk _ => none
def m_plant_groups_join (g : Groups_int_) (a : Int) (b : Int) : Option (List (Int × Int)) :=
 (m_plant_groups_of_v1 g a).bind fun r_ =>
 (m_plant_groups_of_v1 g b).bind fun r_1 =>
 bif (!decide (r_ = r_1)) then
 some (mset eqI r_ r_1 g.head)
 else
 some g.head
def m_plant_islands_r0_Y (x22 : Int) (x221 : Int) (x222 : Int) (x223 : Int) (x224 : Int) (x225 : (List Trip)) (o_ : Groups_int_) : Option Groups_int_ :=
 (m_plant_groups_join o_ x22 x221).bind fun r_ =>
 some (⟨r_⟩ : Groups_int_)
def m_plant_conducting_1_L0 (x12 : (List Link)) (x2 : (List Bool)) (x22 : (List Bool)) (x26 : (List Bool)) : ((List (Int × Int)) × Int) → Option (Flow ((List (Int × Int)) × Int) (Ex (List (Int × Int)) Groups_int_)) :=
 fun zz => match zz with
 | (o50, t9) =>
 bif (decide (t9 < (x12.length : Int))) then
 asO ((0 : Int) ≤ t9 ∧ t9 < (x12.length : Int)) (
 bif (bif (bif (bif (at' x2 t9.toNat) then (!(at' x22 t9.toNat)) else false) then (!(at' x26 (((at' x12 t9.toNat).a).toNat))) else false) then (!(at' x26 (((at' x12 t9.toNat).b).toNat))) else false) then
 (m_plant_islands_r0_Y ((at' x12 t9.toNat).a) ((at' x12 t9.toNat).b) ((at' x12 t9.toNat).kind) ((at' x12 t9.toNat).most) ((at' x12 t9.toNat).ohm) ((at' x12 t9.toNat).trip) (⟨o50⟩ : Groups_int_)).bind fun r_ =>
 asO (((0 : Int) ≤ t9 ∧ t9 < (x2.length : Int)) ∧ (gB [((at' x2 t9.toNat), true)] = true → (0 : Int) ≤ t9 ∧ t9 < (x22.length : Int)) ∧ (gB [((bif (at' x2 t9.toNat) then (!(at' x22 t9.toNat)) else false), true)] = true → (0 : Int) ≤ (at' x12 t9.toNat).a ∧ (at' x12 t9.toNat).a < (x26.length : Int)) ∧ (gB [((bif (bif (at' x2 t9.toNat) then (!(at' x22 t9.toNat)) else false) then (!(at' x26 (((at' x12 t9.toNat).a).toNat))) else false), true)] = true → (0 : Int) ≤ (at' x12 t9.toNat).b ∧ (at' x12 t9.toNat).b < (x26.length : Int))) (
 bif (!true) then
 some (.done (.ret r_))
 else
 some (.next (r_.head, (IntKind.wrap .i64 (t9 + 1)))))
 else
 asO (((0 : Int) ≤ t9 ∧ t9 < (x2.length : Int)) ∧ (gB [((at' x2 t9.toNat), true)] = true → (0 : Int) ≤ t9 ∧ t9 < (x22.length : Int)) ∧ (gB [((bif (at' x2 t9.toNat) then (!(at' x22 t9.toNat)) else false), true)] = true → (0 : Int) ≤ (at' x12 t9.toNat).a ∧ (at' x12 t9.toNat).a < (x26.length : Int)) ∧ (gB [((bif (bif (at' x2 t9.toNat) then (!(at' x22 t9.toNat)) else false) then (!(at' x26 (((at' x12 t9.toNat).a).toNat))) else false), true)] = true → (0 : Int) ≤ (at' x12 t9.toNat).b ∧ (at' x12 t9.toNat).b < (x26.length : Int))) (
 some (.next (o50, (IntKind.wrap .i64 (t9 + 1))))))
 else
 some (.done (.brk o50))
def m_plant_conducting_1 (x1 : Int) (x11 : (List Source)) (x12 : (List Link)) (x13 : (List Rack)) (x2 : (List Bool)) (x21 : (List Bool)) (x22 : (List Bool)) (x23 : (List Bool)) (x24 : (List Bool)) (x25 : (List Bool)) (x26 : (List Bool)) (o_ : Groups_int_) : Option Groups_int_ :=
 Option.bind (loopO (m_plant_conducting_1_L0 x12 x2 x22 x26) FUEL (o_.head, 0)) fun o => match o with
 | .ret v => some v
 | .brk o501 =>
 some (⟨o501⟩ : Groups_int_)
def m_plant_islands_L0 (p : Plant) (s_ : State) (r_1 : Groups_int_) : ((List Island) × (List (Int × Int)) × Int) → Option (Flow ((List Island) × (List (Int × Int)) × Int) (Ex ((List Island) × (List (Int × Int))) (List Island))) :=
 fun zz => match zz with
 | (out, at_, t32) =>
 bif (decide (t32 < p.buses)) then
 asO ((0 : Int) ≤ t32 ∧ t32 < (s_.badBus.length : Int)) (
 bif (at' s_.badBus t32.toNat) then
 some (.next (out, at_, (IntKind.wrap .i64 (t32 + 1))))
 else
 (m_plant_groups_of_v1 r_1 t32).bind fun r_2 =>
 bif (!((mget eqI r_2 at_).isSome)) then
 asO (((out.length + [(⟨([] : List Int), ([] : List Int)⟩ : Island)].length) * 48 ≤ 140737488355328) ∧ (out.length + [(⟨([] : List Int), ([] : List Int)⟩ : Island)].length ≤ 4611686018427387904)) (
 asO (((0 : Int) ≤ ((mget eqI r_2 (mset eqI r_2 (out.length : Int) at_)).getD 0) ∧ ((mget eqI r_2 (mset eqI r_2 (out.length : Int) at_)).getD 0) < ((out ++ [(⟨([] : List Int), ([] : List Int)⟩ : Island)]).length : Int)) ∧ ((((at' (out ++ [(⟨([] : List Int), ([] : List Int)⟩ : Island)]) (((mget eqI r_2 (mset eqI r_2 (out.length : Int) at_)).getD 0).toNat)).buses).length + [t32].length) * 8 ≤ 140737488355328) ∧ (((at' (out ++ [(⟨([] : List Int), ([] : List Int)⟩ : Island)]) (((mget eqI r_2 (mset eqI r_2 (out.length : Int) at_)).getD 0).toNat)).buses).length + [t32].length ≤ 4611686018427387904)) (
 some (.next (((out ++ [(⟨([] : List Int), ([] : List Int)⟩ : Island)]).set (((mget eqI r_2 (mset eqI r_2 (out.length : Int) at_)).getD 0).toNat) (⟨(((at' (out ++ [(⟨([] : List Int), ([] : List Int)⟩ : Island)]) (((mget eqI r_2 (mset eqI r_2 (out.length : Int) at_)).getD 0).toNat)).buses) ++ [t32]), (at' (out ++ [(⟨([] : List Int), ([] : List Int)⟩ : Island)]) (((mget eqI r_2 (mset eqI r_2 (out.length : Int) at_)).getD 0).toNat)).sources⟩ : Island)), (mset eqI r_2 (out.length : Int) at_), (IntKind.wrap .i64 (t32 + 1))))))
 else
 asO (((0 : Int) ≤ ((mget eqI r_2 at_).getD 0) ∧ ((mget eqI r_2 at_).getD 0) < (out.length : Int)) ∧ ((((at' out (((mget eqI r_2 at_).getD 0).toNat)).buses).length + [t32].length) * 8 ≤ 140737488355328) ∧ (((at' out (((mget eqI r_2 at_).getD 0).toNat)).buses).length + [t32].length ≤ 4611686018427387904)) (
 some (.next ((out.set (((mget eqI r_2 at_).getD 0).toNat) (⟨(((at' out (((mget eqI r_2 at_).getD 0).toNat)).buses) ++ [t32]), (at' out (((mget eqI r_2 at_).getD 0).toNat)).sources⟩ : Island)), at_, (IntKind.wrap .i64 (t32 + 1))))))
 else
 some (.done (.brk (out, at_)))
def m_plant_islands_L1 (p : Plant) (s_ : State) (r_1 : Groups_int_) (at_1 : (List (Int × Int))) : ((List Island) × Int) → Option (Flow ((List Island) × Int) (Ex (List Island) (List Island))) :=
 fun zz => match zz with
 | (out2, t78) =>
 bif (decide (t78 < (p.sources.length : Int))) then
 asO ((0 : Int) ≤ t78 ∧ t78 < (p.sources.length : Int)) (
 asO (((0 : Int) ≤ t78 ∧ t78 < (s_.on_.length : Int)) ∧ (gB [((at' s_.on_ t78.toNat), true)] = true → (0 : Int) ≤ t78 ∧ t78 < (s_.badSource.length : Int)) ∧ (gB [((bif (at' s_.on_ t78.toNat) then (!(at' s_.badSource t78.toNat)) else false), true)] = true → (0 : Int) ≤ (at' p.sources t78.toNat).bus ∧ (at' p.sources t78.toNat).bus < (s_.badBus.length : Int))) (
 bif (bif (bif (at' s_.on_ t78.toNat) then (!(at' s_.badSource t78.toNat)) else false) then (!(at' s_.badBus (((at' p.sources t78.toNat).bus).toNat))) else false) then
 (m_plant_groups_of_v1 r_1 ((at' p.sources t78.toNat).bus)).bind fun r_3 =>
 asO (((0 : Int) ≤ ((mget eqI r_3 at_1).getD 0) ∧ ((mget eqI r_3 at_1).getD 0) < (out2.length : Int)) ∧ ((((at' out2 (((mget eqI r_3 at_1).getD 0).toNat)).sources).length + [t78].length) * 8 ≤ 140737488355328) ∧ (((at' out2 (((mget eqI r_3 at_1).getD 0).toNat)).sources).length + [t78].length ≤ 4611686018427387904)) (
 some (.next ((out2.set (((mget eqI r_3 at_1).getD 0).toNat) (⟨(at' out2 (((mget eqI r_3 at_1).getD 0).toNat)).buses, (((at' out2 (((mget eqI r_3 at_1).getD 0).toNat)).sources) ++ [t78])⟩ : Island)), (IntKind.wrap .i64 (t78 + 1)))))
 else
 some (.next (out2, (IntKind.wrap .i64 (t78 + 1))))))
 else
 some (.done (.brk out2))
def m_plant_islands (p : Plant) (s_ : State) : Option (List Island) :=
 (m_plant_conducting p s_).bind fun r_ =>
 (m_plant_conducting_1 r_.1 r_.2.1 r_.2.2.1 r_.2.2.2.1 r_.2.2.2.2.1 r_.2.2.2.2.2.1 r_.2.2.2.2.2.2.1 r_.2.2.2.2.2.2.2.1 r_.2.2.2.2.2.2.2.2.1 r_.2.2.2.2.2.2.2.2.2.1 r_.2.2.2.2.2.2.2.2.2.2 (⟨([] : (List (Int × Int)))⟩ : Groups_int_)).bind fun r_1 =>
 Option.bind (loopO (m_plant_islands_L0 p s_ r_1) FUEL (([] : List Island), ([] : (List (Int × Int))), 0)) fun o => match o with
 | .ret v => some v
 | .brk (out1, at_1) =>
 Option.bind (loopO (m_plant_islands_L1 p s_ r_1 at_1) FUEL (out1, 0)) fun o => match o with
 | .ret v => some v
 | .brk out3 =>
 some out3
def m_plant_Live_L1 (r_1 : (List Island)) (t25 : Int) : ((List Bool) × Int) → Option (Flow ((List Bool) × Int) (Ex (List Bool) (Flow ((List Bool) × Int) (Ex (List Bool) ((List Bool) × Int))))) :=
 fun zz => match zz with
 | (out2, t32) =>
 bif (decide (t32 < (((at' r_1 t25.toNat).buses).length : Int))) then
 asO ((0 : Int) ≤ t32 ∧ t32 < (((at' r_1 t25.toNat).buses).length : Int)) (
 asO ((0 : Int) ≤ (at' ((at' r_1 t25.toNat).buses) t32.toNat) ∧ (at' ((at' r_1 t25.toNat).buses) t32.toNat) < (out2.length : Int)) (
 some (.next ((out2.set ((at' ((at' r_1 t25.toNat).buses) t32.toNat).toNat) (decide (0 < (((at' r_1 t25.toNat).sources).length : Int)))), (IntKind.wrap .i64 (t32 + 1))))))
 else
 some (.done (.brk out2))
def m_plant_Live_L0 (r_1 : (List Island)) : ((List Bool) × Int) → Option (Flow ((List Bool) × Int) (Ex (List Bool) ((List Bool) × Int))) :=
 fun zz => match zz with
 | (out, t25) =>
 bif (decide (t25 < (r_1.length : Int))) then
 asO ((0 : Int) ≤ t25 ∧ t25 < (r_1.length : Int)) (
 Option.bind (loopO (m_plant_Live_L1 r_1 t25) FUEL (out, 0)) fun o => match o with
 | .ret v => some v
 | .brk out3 =>
 some (.next (out3, (IntKind.wrap .i64 (t25 + 1)))))
 else
 some (.done (.brk out))
def m_plant_Live (p : Plant) (s_ : State) : Option ((List Bool) × Int) :=
 (m_plant_CheckState p s_).bind fun r_ =>
 bif (!decide (r_ = 0)) then
 some (([] : List Bool), r_)
 else
 asO (((0 : Int) ≤ p.buses) ∧ ((1 : Int) * p.buses ≤ 281474976710656) ∧ ((p.buses : Int) ≤ 9223372036854775807)) (
 (m_plant_islands p s_).bind fun r_1 =>
 Option.bind (loopO (m_plant_Live_L0 r_1) FUEL ((List.replicate p.buses.toNat (false : Bool)), 0)) fun o => match o with
 | .ret v => some v
 | .brk out1 =>
 some (out1, 0))
def m_guard_Lost_1 (x : Arr2Bool) : Option Bool :=
 some (bif x.e0 then true else x.e1)
def m_guard_machine_run_v1_L0 (machine : Machine) : ((List Event) × Bool × Int × Int × (List Bool) × (List Bool) × (List Bool) × (List Bool) × (List Bool) × (List Bool) × (List Bool) × Int × Int × Bool × (List Int) × Int × (List (Int × Int)) × Int) → Option (Flow ((List Event) × Bool × Int × Int × (List Bool) × (List Bool) × (List Bool) × (List Bool) × (List Bool) × (List Bool) × (List Bool) × Int × Int × Bool × (List Int) × Int × (List (Int × Int)) × Int) (Ex Unit (Clearing × (List (Int × Int))))) :=
 fun zz => match zz with
 | (o0, o1, o2, o3, o4, o5, o6, o7, o8, o9, o10, o11, o15, o16_nn, o16, o17, o18, o19) =>
 (m_guard_machine_look (⟨(⟨o0, o1, o2, o3, (⟨o4, o5, o6, o7, o8, o9, o10⟩ : State)⟩ : Clearing), (⟨o11, machine.p.sources, machine.p.links, machine.p.racks⟩ : Plant), o15, o16, o17, o18, o19⟩ : Machine) o16_nn).bind fun r_ =>
 bif (decide (r_.1.total = 0)) then
 some (.done (.ret ((⟨o0, true, r_.1.clearing.millis, r_.1.clearing.energy, r_.1.clearing.state⟩ : Clearing), r_.1.since)))
 else
 (m_guard_machine_round (⟨(⟨o0, r_.1.clearing.cleared, r_.1.clearing.millis, r_.1.clearing.energy, r_.1.clearing.state⟩ : Clearing), (⟨r_.1.p.buses, machine.p.sources, machine.p.links, machine.p.racks⟩ : Plant), r_.1.bus, r_.1.amps, r_.1.total, r_.1.since, r_.1.now⟩ : Machine) r_.2).bind fun r_1 =>
 bif r_1.1 then
 some (.next (r_1.2.1.clearing.events, r_1.2.1.clearing.cleared, r_1.2.1.clearing.millis, r_1.2.1.clearing.energy, r_1.2.1.clearing.state.closed, r_1.2.1.clearing.state.locked, r_1.2.1.clearing.state.badLink, r_1.2.1.clearing.state.on_, r_1.2.1.clearing.state.badSource, r_1.2.1.clearing.state.earthed, r_1.2.1.clearing.state.badBus, r_1.2.1.p.buses, r_1.2.1.bus, r_1.2.2, r_1.2.1.amps, r_1.2.1.total, r_.1.since, r_1.2.1.now))
 else
 some (.done (.ret (r_1.2.1.clearing, r_.1.since)))
def m_guard_machine_run_v1 (machine : Machine) (machine_nn : Bool) : Option (Clearing × (List (Int × Int))) :=
 Option.bind (loopO (m_guard_machine_run_v1_L0 machine) FUEL (machine.clearing.events, machine.clearing.cleared, machine.clearing.millis, machine.clearing.energy, machine.clearing.state.closed, machine.clearing.state.locked, machine.clearing.state.badLink, machine.clearing.state.on_, machine.clearing.state.badSource, machine.clearing.state.earthed, machine.clearing.state.badBus, machine.p.buses, machine.bus, machine_nn, machine.amps, machine.total, machine.since, machine.now)) fun o => match o with
 | .ret v => some v
 | .brk _ => none
def m_guard_Clear_v2 (p : Plant) (s_ : State) (bus : Int) : Option (Clearing × Int) :=
 (m_plant_CheckState p s_).bind fun r_ =>
 bif (!decide (r_ = 0)) then
 some ((⟨([] : List Event), false, 0, 0, (⟨([] : List Bool), ([] : List Bool), ([] : List Bool), ([] : List Bool), ([] : List Bool), ([] : List Bool), ([] : List Bool)⟩ : State)⟩ : Clearing), r_)
 else
 bif (bif (decide (bus < 0)) then true else (decide (p.buses ≤ bus))) then
 some ((⟨([] : List Event), false, 0, 0, (⟨([] : List Bool), ([] : List Bool), ([] : List Bool), ([] : List Bool), ([] : List Bool), ([] : List Bool), ([] : List Bool)⟩ : State)⟩ : Clearing), 1)
 else
 (m_guard_copied s_).bind fun r_1 =>
 (m_guard_machine_run_v1 (⟨(⟨([] : List Event), false, 0, 0, r_1⟩ : Clearing), p, bus, ([] : List Int), 0, ([] : (List (Int × Int))), 0⟩ : Machine) false).bind fun r_2 =>
 some (r_2.1, 0)
def m_plant_conducting_v1 (p : Plant) (s_ : State) : Option ((List Bool) × (List Bool) × (List Bool) × (List Bool) × (List Bool) × (List Bool) × (List Bool) × Plant) :=
 some (s_.closed, s_.locked, s_.badLink, s_.on_, s_.badSource, s_.earthed, s_.badBus, p)
def m_plant_conducting_1_v1_L0 (x2 : (List Bool)) (x22 : (List Bool)) (x26 : (List Bool)) (plant : Plant) : ((List (Int × Int)) × Int) → Option (Flow ((List (Int × Int)) × Int) (Ex (List (Int × Int)) Groups_int_)) :=
 fun zz => match zz with
 | (o50, t9) =>
 bif (decide (t9 < (plant.links.length : Int))) then
 asO ((0 : Int) ≤ t9 ∧ t9 < (plant.links.length : Int)) (
 bif (bif (bif (bif (at' x2 t9.toNat) then (!(at' x22 t9.toNat)) else false) then (!(at' x26 (((at' plant.links t9.toNat).a).toNat))) else false) then (!(at' x26 (((at' plant.links t9.toNat).b).toNat))) else false) then
 (m_plant_islands_r0_Y ((at' plant.links t9.toNat).a) ((at' plant.links t9.toNat).b) ((at' plant.links t9.toNat).kind) ((at' plant.links t9.toNat).most) ((at' plant.links t9.toNat).ohm) ((at' plant.links t9.toNat).trip) (⟨o50⟩ : Groups_int_)).bind fun r_ =>
 asO (((0 : Int) ≤ t9 ∧ t9 < (x2.length : Int)) ∧ (gB [((at' x2 t9.toNat), true)] = true → (0 : Int) ≤ t9 ∧ t9 < (x22.length : Int)) ∧ (gB [((bif (at' x2 t9.toNat) then (!(at' x22 t9.toNat)) else false), true)] = true → (0 : Int) ≤ (at' plant.links t9.toNat).a ∧ (at' plant.links t9.toNat).a < (x26.length : Int)) ∧ (gB [((bif (bif (at' x2 t9.toNat) then (!(at' x22 t9.toNat)) else false) then (!(at' x26 (((at' plant.links t9.toNat).a).toNat))) else false), true)] = true → (0 : Int) ≤ (at' plant.links t9.toNat).b ∧ (at' plant.links t9.toNat).b < (x26.length : Int))) (
 bif (!true) then
 some (.done (.ret r_))
 else
 some (.next (r_.head, (IntKind.wrap .i64 (t9 + 1)))))
 else
 asO (((0 : Int) ≤ t9 ∧ t9 < (x2.length : Int)) ∧ (gB [((at' x2 t9.toNat), true)] = true → (0 : Int) ≤ t9 ∧ t9 < (x22.length : Int)) ∧ (gB [((bif (at' x2 t9.toNat) then (!(at' x22 t9.toNat)) else false), true)] = true → (0 : Int) ≤ (at' plant.links t9.toNat).a ∧ (at' plant.links t9.toNat).a < (x26.length : Int)) ∧ (gB [((bif (bif (at' x2 t9.toNat) then (!(at' x22 t9.toNat)) else false) then (!(at' x26 (((at' plant.links t9.toNat).a).toNat))) else false), true)] = true → (0 : Int) ≤ (at' plant.links t9.toNat).b ∧ (at' plant.links t9.toNat).b < (x26.length : Int))) (
 some (.next (o50, (IntKind.wrap .i64 (t9 + 1))))))
 else
 some (.done (.brk o50))
def m_plant_conducting_1_v1 (x2 : (List Bool)) (x21 : (List Bool)) (x22 : (List Bool)) (x23 : (List Bool)) (x24 : (List Bool)) (x25 : (List Bool)) (x26 : (List Bool)) (plant : Plant) (o_ : Groups_int_) : Option Groups_int_ :=
 Option.bind (loopO (m_plant_conducting_1_v1_L0 x2 x22 x26 plant) FUEL (o_.head, 0)) fun o => match o with
 | .ret v => some v
 | .brk o501 =>
 some (⟨o501⟩ : Groups_int_)
def m_plant_islands_v2_L0 (p : Plant) (s_ : State) (r_1 : Groups_int_) : ((List Island) × (List (Int × Int)) × Int) → Option (Flow ((List Island) × (List (Int × Int)) × Int) (Ex ((List Island) × (List (Int × Int))) (List Island))) :=
 fun zz => match zz with
 | (out, at_, t32) =>
 bif (decide (t32 < p.buses)) then
 asO ((0 : Int) ≤ t32 ∧ t32 < (s_.badBus.length : Int)) (
 bif (at' s_.badBus t32.toNat) then
 some (.next (out, at_, (IntKind.wrap .i64 (t32 + 1))))
 else
 (m_plant_groups_of_v1 r_1 t32).bind fun r_2 =>
 bif (!((mget eqI r_2 at_).isSome)) then
 asO (((out.length + [(⟨([] : List Int), ([] : List Int)⟩ : Island)].length) * 48 ≤ 140737488355328) ∧ (out.length + [(⟨([] : List Int), ([] : List Int)⟩ : Island)].length ≤ 4611686018427387904)) (
 asO (((0 : Int) ≤ ((mget eqI r_2 (mset eqI r_2 (out.length : Int) at_)).getD 0) ∧ ((mget eqI r_2 (mset eqI r_2 (out.length : Int) at_)).getD 0) < ((out ++ [(⟨([] : List Int), ([] : List Int)⟩ : Island)]).length : Int)) ∧ ((((at' (out ++ [(⟨([] : List Int), ([] : List Int)⟩ : Island)]) (((mget eqI r_2 (mset eqI r_2 (out.length : Int) at_)).getD 0).toNat)).buses).length + [t32].length) * 8 ≤ 140737488355328) ∧ (((at' (out ++ [(⟨([] : List Int), ([] : List Int)⟩ : Island)]) (((mget eqI r_2 (mset eqI r_2 (out.length : Int) at_)).getD 0).toNat)).buses).length + [t32].length ≤ 4611686018427387904)) (
 some (.next (((out ++ [(⟨([] : List Int), ([] : List Int)⟩ : Island)]).set (((mget eqI r_2 (mset eqI r_2 (out.length : Int) at_)).getD 0).toNat) (⟨(((at' (out ++ [(⟨([] : List Int), ([] : List Int)⟩ : Island)]) (((mget eqI r_2 (mset eqI r_2 (out.length : Int) at_)).getD 0).toNat)).buses) ++ [t32]), (at' (out ++ [(⟨([] : List Int), ([] : List Int)⟩ : Island)]) (((mget eqI r_2 (mset eqI r_2 (out.length : Int) at_)).getD 0).toNat)).sources⟩ : Island)), (mset eqI r_2 (out.length : Int) at_), (IntKind.wrap .i64 (t32 + 1))))))
 else
 asO (((0 : Int) ≤ ((mget eqI r_2 at_).getD 0) ∧ ((mget eqI r_2 at_).getD 0) < (out.length : Int)) ∧ ((((at' out (((mget eqI r_2 at_).getD 0).toNat)).buses).length + [t32].length) * 8 ≤ 140737488355328) ∧ (((at' out (((mget eqI r_2 at_).getD 0).toNat)).buses).length + [t32].length ≤ 4611686018427387904)) (
 some (.next ((out.set (((mget eqI r_2 at_).getD 0).toNat) (⟨(((at' out (((mget eqI r_2 at_).getD 0).toNat)).buses) ++ [t32]), (at' out (((mget eqI r_2 at_).getD 0).toNat)).sources⟩ : Island)), at_, (IntKind.wrap .i64 (t32 + 1))))))
 else
 some (.done (.brk (out, at_)))
def m_plant_islands_v2_L1 (p : Plant) (s_ : State) (r_1 : Groups_int_) (at_1 : (List (Int × Int))) : ((List Island) × Int) → Option (Flow ((List Island) × Int) (Ex (List Island) (List Island))) :=
 fun zz => match zz with
 | (out2, t78) =>
 bif (decide (t78 < (p.sources.length : Int))) then
 asO ((0 : Int) ≤ t78 ∧ t78 < (p.sources.length : Int)) (
 asO (((0 : Int) ≤ t78 ∧ t78 < (s_.on_.length : Int)) ∧ (gB [((at' s_.on_ t78.toNat), true)] = true → (0 : Int) ≤ t78 ∧ t78 < (s_.badSource.length : Int)) ∧ (gB [((bif (at' s_.on_ t78.toNat) then (!(at' s_.badSource t78.toNat)) else false), true)] = true → (0 : Int) ≤ (at' p.sources t78.toNat).bus ∧ (at' p.sources t78.toNat).bus < (s_.badBus.length : Int))) (
 bif (bif (bif (at' s_.on_ t78.toNat) then (!(at' s_.badSource t78.toNat)) else false) then (!(at' s_.badBus (((at' p.sources t78.toNat).bus).toNat))) else false) then
 (m_plant_groups_of_v1 r_1 ((at' p.sources t78.toNat).bus)).bind fun r_3 =>
 asO (((0 : Int) ≤ ((mget eqI r_3 at_1).getD 0) ∧ ((mget eqI r_3 at_1).getD 0) < (out2.length : Int)) ∧ ((((at' out2 (((mget eqI r_3 at_1).getD 0).toNat)).sources).length + [t78].length) * 8 ≤ 140737488355328) ∧ (((at' out2 (((mget eqI r_3 at_1).getD 0).toNat)).sources).length + [t78].length ≤ 4611686018427387904)) (
 some (.next ((out2.set (((mget eqI r_3 at_1).getD 0).toNat) (⟨(at' out2 (((mget eqI r_3 at_1).getD 0).toNat)).buses, (((at' out2 (((mget eqI r_3 at_1).getD 0).toNat)).sources) ++ [t78])⟩ : Island)), (IntKind.wrap .i64 (t78 + 1)))))
 else
 some (.next (out2, (IntKind.wrap .i64 (t78 + 1))))))
 else
 some (.done (.brk out2))
def m_plant_islands_v2 (p : Plant) (s_ : State) : Option (List Island) :=
 (m_plant_conducting_v1 p s_).bind fun r_ =>
 (m_plant_conducting_1_v1 r_.1 r_.2.1 r_.2.2.1 r_.2.2.2.1 r_.2.2.2.2.1 r_.2.2.2.2.2.1 r_.2.2.2.2.2.2.1 (⟨r_.2.2.2.2.2.2.2.buses, p.sources, p.links, p.racks⟩ : Plant) (⟨([] : (List (Int × Int)))⟩ : Groups_int_)).bind fun r_1 =>
 Option.bind (loopO (m_plant_islands_v2_L0 p s_ r_1) FUEL (([] : List Island), ([] : (List (Int × Int))), 0)) fun o => match o with
 | .ret v => some v
 | .brk (out1, at_1) =>
 Option.bind (loopO (m_plant_islands_v2_L1 p s_ r_1 at_1) FUEL (out1, 0)) fun o => match o with
 | .ret v => some v
 | .brk out3 =>
 some out3
def m_plant_Live_v1_L1 (r_1 : (List Island)) (t25 : Int) : ((List Bool) × Int) → Option (Flow ((List Bool) × Int) (Ex (List Bool) (Flow ((List Bool) × Int) (Ex (List Bool) ((List Bool) × Int))))) :=
 fun zz => match zz with
 | (out2, t32) =>
 bif (decide (t32 < (((at' r_1 t25.toNat).buses).length : Int))) then
 asO ((0 : Int) ≤ t32 ∧ t32 < (((at' r_1 t25.toNat).buses).length : Int)) (
 asO ((0 : Int) ≤ (at' ((at' r_1 t25.toNat).buses) t32.toNat) ∧ (at' ((at' r_1 t25.toNat).buses) t32.toNat) < (out2.length : Int)) (
 some (.next ((out2.set ((at' ((at' r_1 t25.toNat).buses) t32.toNat).toNat) (decide (0 < (((at' r_1 t25.toNat).sources).length : Int)))), (IntKind.wrap .i64 (t32 + 1))))))
 else
 some (.done (.brk out2))
def m_plant_Live_v1_L0 (r_1 : (List Island)) : ((List Bool) × Int) → Option (Flow ((List Bool) × Int) (Ex (List Bool) ((List Bool) × Int))) :=
 fun zz => match zz with
 | (out, t25) =>
 bif (decide (t25 < (r_1.length : Int))) then
 asO ((0 : Int) ≤ t25 ∧ t25 < (r_1.length : Int)) (
 Option.bind (loopO (m_plant_Live_v1_L1 r_1 t25) FUEL (out, 0)) fun o => match o with
 | .ret v => some v
 | .brk out3 =>
 some (.next (out3, (IntKind.wrap .i64 (t25 + 1)))))
 else
 some (.done (.brk out))
def m_plant_Live_v1 (p : Plant) (s_ : State) : Option ((List Bool) × Int) :=
 (m_plant_CheckState p s_).bind fun r_ =>
 bif (!decide (r_ = 0)) then
 some (([] : List Bool), r_)
 else
 asO (((0 : Int) ≤ p.buses) ∧ ((1 : Int) * p.buses ≤ 281474976710656) ∧ ((p.buses : Int) ≤ 9223372036854775807)) (
 (m_plant_islands_v2 p s_).bind fun r_1 =>
 Option.bind (loopO (m_plant_Live_v1_L0 r_1) FUEL ((List.replicate p.buses.toNat (false : Bool)), 0)) fun o => match o with
 | .ret v => some v
 | .brk out1 =>
 some (out1, 0))
def m_plant_Fed_v1_L0 (p : Plant) (r_ : ((List Bool) × Int)) : ((List Arr2Bool) × Int) → Option (Flow ((List Arr2Bool) × Int) (Ex (List Arr2Bool) ((List Arr2Bool) × Int))) :=
 fun zz => match zz with
 | (out, t26) =>
 bif (decide (t26 < (p.racks.length : Int))) then
 asO ((0 : Int) ≤ t26 ∧ t26 < (p.racks.length : Int)) (
 asO (gB [((decide (0 ≤ (((at' p.racks t26.toNat).feeds).e0))), true)] = true → (0 : Int) ≤ ((at' p.racks t26.toNat).feeds).e0 ∧ ((at' p.racks t26.toNat).feeds).e0 < (r_.1.length : Int)) (
 asO (gB [((decide (0 ≤ (((at' p.racks t26.toNat).feeds).e1))), true)] = true → (0 : Int) ≤ ((at' p.racks t26.toNat).feeds).e1 ∧ ((at' p.racks t26.toNat).feeds).e1 < (r_.1.length : Int)) (
 asO (((out.length + [(⟨(bif (decide (0 ≤ (((at' p.racks t26.toNat).feeds).e0))) then (at' r_.1 ((((at' p.racks t26.toNat).feeds).e0).toNat)) else false), (bif (decide (0 ≤ (((at' p.racks t26.toNat).feeds).e1))) then (at' r_.1 ((((at' p.racks t26.toNat).feeds).e1).toNat)) else false)⟩ : Arr2Bool)].length) * 2 ≤ 140737488355328) ∧ (out.length + [(⟨(bif (decide (0 ≤ (((at' p.racks t26.toNat).feeds).e0))) then (at' r_.1 ((((at' p.racks t26.toNat).feeds).e0).toNat)) else false), (bif (decide (0 ≤ (((at' p.racks t26.toNat).feeds).e1))) then (at' r_.1 ((((at' p.racks t26.toNat).feeds).e1).toNat)) else false)⟩ : Arr2Bool)].length ≤ 4611686018427387904)) (
 some (.next ((out ++ [(⟨(bif (decide (0 ≤ (((at' p.racks t26.toNat).feeds).e0))) then (at' r_.1 ((((at' p.racks t26.toNat).feeds).e0).toNat)) else false), (bif (decide (0 ≤ (((at' p.racks t26.toNat).feeds).e1))) then (at' r_.1 ((((at' p.racks t26.toNat).feeds).e1).toNat)) else false)⟩ : Arr2Bool)]), (IntKind.wrap .i64 (t26 + 1))))))))
 else
 some (.done (.brk out))
def m_plant_Fed_v1 (p : Plant) (s_ : State) : Option ((List Arr2Bool) × Int) :=
 (m_plant_Live_v1 p s_).bind fun r_ =>
 bif (!decide (r_.2 = 0)) then
 some (([] : List Arr2Bool), r_.2)
 else
 Option.bind (loopO (m_plant_Fed_v1_L0 p r_) FUEL (([] : List Arr2Bool), 0)) fun o => match o with
 | .ret v => some v
 | .brk out1 =>
 some (out1, 0)
def m_guard_Lost_v1_L0 (p : Plant) (r_2 : ((List Arr2Bool) × Int)) (r_3 : ((List Arr2Bool) × Int)) : ((List Int) × Int) → Option (Flow ((List Int) × Int) (Ex (List Int) ((List Int) × Int))) :=
 fun zz => match zz with
 | (out, t58) =>
 bif (decide (t58 < (p.racks.length : Int))) then
 (m_guard_Lost_1 (at' r_2.1 t58.toNat)).bind fun r_4 =>
 (bif gB [(r_4, true)] then m_guard_Lost_1 (at' r_3.1 t58.toNat) else some default).bind fun r_5 =>
 asO (((0 : Int) ≤ t58 ∧ t58 < (r_2.1.length : Int)) ∧ (gB [(r_4, true)] = true → (0 : Int) ≤ t58 ∧ t58 < (r_3.1.length : Int))) (
 bif (bif r_4 then (!r_5) else false) then
 asO (((out.length + [t58].length) * 8 ≤ 140737488355328) ∧ (out.length + [t58].length ≤ 4611686018427387904)) (
 some (.next ((out ++ [t58]), (IntKind.wrap .i64 (t58 + 1)))))
 else
 some (.next (out, (IntKind.wrap .i64 (t58 + 1)))))
 else
 some (.done (.brk out))
def m_guard_Lost_v1 (p : Plant) (s_ : State) (bus : Int) : Option ((List Int) × Int) :=
 (m_guard_Clear_v2 p s_ bus).bind fun r_ =>
 bif (!decide (r_.2 = 0)) then
 some (([] : List Int), r_.2)
 else
 bif (!r_.1.cleared) then
 some (([] : List Int), 4)
 else
 (m_plant_Break p r_.1.state (⟨1, bus⟩ : Part)).bind fun r_1 =>
 (m_plant_Fed_v1 p s_).bind fun r_2 =>
 (m_plant_Fed_v1 p r_1.1).bind fun r_3 =>
 Option.bind (loopO (m_guard_Lost_v1_L0 p r_2 r_3) FUEL (([] : List Int), 0)) fun o => match o with
 | .ret v => some v
 | .brk out1 =>
 some (out1, 0)
def m_law03_awake  : Option Bool :=
 (m_law03_example).bind fun r_ =>
 (m_guard_Clear_v2 r_.1 r_.2 2).bind fun r_1 =>
 (m_guard_Selective r_.1 r_.2 2).bind fun r_2 =>
 (m_guard_Lost_v1 r_.1 r_.2 2).bind fun r_3 =>
 bif (bif (bif (bif (bif (bif (bif (bif (!decide (r_1.2 = 0)) then true else (!decide (r_2.2 = 0))) then true else (!decide (r_3.2 = 0))) then true else (!r_2.1)) then true else (!decide ((r_1.1.events.length : Int) = 1))) then true else (!((decide (((at' r_1.1.events 0).millis) = 50)) && ((decide (((at' r_1.1.events 0).link) = 1)) && true)))) then true else (!r_1.1.cleared)) then true else (!decide (r_1.1.energy = 5000000))) then
 asO (gB [((bif (bif (bif (bif (!decide (r_1.2 = 0)) then true else (!decide (r_2.2 = 0))) then true else (!decide (r_3.2 = 0))) then true else (!r_2.1)) then true else (!decide ((r_1.1.events.length : Int) = 1))), false)] = true → (0 : Int) ≤ 0 ∧ 0 < (r_1.1.events.length : Int)) (
 some false)
 else
 (m_kit_SameInts r_3.1 [0]).bind fun r_4 =>
 asO (gB [((bif (bif (bif (bif (!decide (r_1.2 = 0)) then true else (!decide (r_2.2 = 0))) then true else (!decide (r_3.2 = 0))) then true else (!r_2.1)) then true else (!decide ((r_1.1.events.length : Int) = 1))), false)] = true → (0 : Int) ≤ 0 ∧ 0 < (r_1.1.events.length : Int)) (
 bif (!r_4) then
 some false
 else
 asO ((0 : Int) ≤ 1 ∧ 1 < (r_.1.links.length : Int)) (
 (m_guard_Clear (⟨r_.1.buses, r_.1.sources, (r_.1.links.set 1 (⟨(at' r_.1.links 1).a, (at' r_.1.links 1).b, (at' r_.1.links 1).kind, (at' r_.1.links 1).most, (at' r_.1.links 1).ohm, ([] : List Trip)⟩ : Link)), r_.1.racks⟩ : Plant) r_.2 2).bind fun r_5 =>
 (m_guard_Selective (⟨r_.1.buses, r_.1.sources, (r_.1.links.set 1 (⟨(at' r_.1.links 1).a, (at' r_.1.links 1).b, (at' r_.1.links 1).kind, (at' r_.1.links 1).most, (at' r_.1.links 1).ohm, ([] : List Trip)⟩ : Link)), r_.1.racks⟩ : Plant) r_.2 2).bind fun r_6 =>
 asO (gB [((bif (bif (bif (bif (decide (r_5.2 = 0)) then (decide (r_6.2 = 0)) else false) then (!r_6.1) else false) then r_5.1.cleared else false) then (decide ((r_5.1.events.length : Int) = 1)) else false), true)] = true → (0 : Int) ≤ 0 ∧ 0 < (r_5.1.events.length : Int)) (
 some (bif (bif (bif (bif (bif (bif (decide (r_5.2 = 0)) then (decide (r_6.2 = 0)) else false) then (!r_6.1) else false) then r_5.1.cleared else false) then (decide ((r_5.1.events.length : Int) = 1)) else false) then ((decide (((at' r_5.1.events 0).millis) = 100)) && ((decide (((at' r_5.1.events 0).link) = 0)) && true)) else false) then (decide (r_5.1.millis = 100)) else false))))
def m_kit_Pick (x : Int) (n : Int) : Option Int :=
 bif (decide (n < 1)) then
 some 0
 else
 asO (n ≠ (0 : Int)) (
 bif (decide ((Int.tmod x n) < 0)) then
 some (IntKind.wrap .i64 ((Int.tmod x n) + n))
 else
 some (Int.tmod x n))
def m_kit_CopyTruths (l : (List Bool)) : Option (List Bool) :=
 asO ((l.length * 1 ≤ 140737488355328) ∧ (l.length ≤ 4611686018427387904)) (
 some l)
def m_kit_CopyState (x : State) : Option State :=
 (m_kit_CopyTruths x.closed).bind fun r_ =>
 (m_kit_CopyTruths x.locked).bind fun r_1 =>
 (m_kit_CopyTruths x.badLink).bind fun r_2 =>
 (m_kit_CopyTruths x.on_).bind fun r_3 =>
 (m_kit_CopyTruths x.badSource).bind fun r_4 =>
 (m_kit_CopyTruths x.earthed).bind fun r_5 =>
 (m_kit_CopyTruths x.badBus).bind fun r_6 =>
 some (⟨r_, r_1, r_2, r_3, r_4, r_5, r_6⟩ : State)
def m_kit_SameTruths_L0 (a : (List Bool)) (b : (List Bool)) : Int → Option (Flow Int (Ex Unit Bool)) :=
 fun i =>
 bif (decide (i < (a.length : Int))) then
 asO (((0 : Int) ≤ i ∧ i < (a.length : Int)) ∧ ((0 : Int) ≤ i ∧ i < (b.length : Int))) (
 bif (!((at' a i.toNat) == (at' b i.toNat))) then
 some (.done (.ret false))
 else
 some (.next (IntKind.wrap .i64 (i + 1))))
 else
 some (.done (.brk ()))
def m_kit_SameTruths (a : (List Bool)) (b : (List Bool)) : Option Bool :=
 bif (!decide ((a.length : Int) = (b.length : Int))) then
 some false
 else
 Option.bind (loopO (m_kit_SameTruths_L0 a b) FUEL (0)) fun o => match o with
 | .ret v => some v
 | .brk _ =>
 some true
def m_kit_SameState (a : State) (b : State) : Option Bool :=
 (m_kit_SameTruths a.closed b.closed).bind fun r_ =>
 (bif gB [(r_, true)] then m_kit_SameTruths a.locked b.locked else some default).bind fun r_1 =>
 (bif gB [((bif r_ then r_1 else false), true)] then m_kit_SameTruths a.badLink b.badLink else some default).bind fun r_2 =>
 (bif gB [((bif (bif r_ then r_1 else false) then r_2 else false), true)] then m_kit_SameTruths a.on_ b.on_ else some default).bind fun r_3 =>
 (bif gB [((bif (bif (bif r_ then r_1 else false) then r_2 else false) then r_3 else false), true)] then m_kit_SameTruths a.badSource b.badSource else some default).bind fun r_4 =>
 (bif gB [((bif (bif (bif (bif r_ then r_1 else false) then r_2 else false) then r_3 else false) then r_4 else false), true)] then m_kit_SameTruths a.earthed b.earthed else some default).bind fun r_5 =>
 (bif gB [((bif (bif (bif (bif (bif r_ then r_1 else false) then r_2 else false) then r_3 else false) then r_4 else false) then r_5 else false), true)] then m_kit_SameTruths a.badBus b.badBus else some default).bind fun r_6 =>
 some (bif (bif (bif (bif (bif (bif r_ then r_1 else false) then r_2 else false) then r_3 else false) then r_4 else false) then r_5 else false) then r_6 else false)
def m_law03_GuardOpens_L0 (r_4 : ((List Bool) × Int)) (r_5 : ((List Bool) × Int)) : Int → Option (Flow Int (Ex Unit Bool)) :=
 fun i =>
 bif (decide (i < (r_5.1.length : Int))) then
 asO (((0 : Int) ≤ i ∧ i < (r_5.1.length : Int)) ∧ (gB [((at' r_5.1 i.toNat), true)] = true → (0 : Int) ≤ i ∧ i < (r_4.1.length : Int))) (
 bif (bif (at' r_5.1 i.toNat) then (!(at' r_4.1 i.toNat)) else false) then
 some (.done (.ret false))
 else
 some (.next (IntKind.wrap .i64 (i + 1))))
 else
 some (.done (.brk ()))
def m_law03_GuardOpens_L1 (s_ : State) : ((List Bool) × Int) → Option (Flow ((List Bool) × Int) (Ex (List Bool) Bool)) :=
 fun zz => match zz with
 | (t0, i1) =>
 bif (decide (i1 < (s_.closed.length : Int))) then
 asO (((0 : Int) ≤ i1 ∧ i1 < (t0.length : Int)) ∧ (gB [((at' t0 i1.toNat), true)] = true → (0 : Int) ≤ i1 ∧ i1 < (s_.closed.length : Int))) (
 bif (bif (at' t0 i1.toNat) then (!(at' s_.closed i1.toNat)) else false) then
 some (.done (.ret false))
 else
 asO (((0 : Int) ≤ i1 ∧ i1 < (s_.closed.length : Int)) ∧ ((0 : Int) ≤ i1 ∧ i1 < (t0.length : Int))) (
 some (.next ((t0.set i1.toNat (at' s_.closed i1.toNat)), (IntKind.wrap .i64 (i1 + 1))))))
 else
 some (.done (.brk t0))
def m_law03_GuardOpens (p : Plant) (s_ : State) (bus : Int) : Option Bool :=
 (bif gB [((bif (bif (decide (60 < (p.sources.length : Int))) then true else (decide (60 < (p.links.length : Int)))) then true else (decide (60 < (p.racks.length : Int)))), false)] then m_plant_CheckState p s_ else some default).bind fun r_ =>
 bif (bif (bif (bif (decide (60 < (p.sources.length : Int))) then true else (decide (60 < (p.links.length : Int)))) then true else (decide (60 < (p.racks.length : Int)))) then true else (!decide (r_ = 0))) then
 (m_law03_awake).bind fun r_1 =>
 some r_1
 else
 (m_kit_Pick bus p.buses).bind fun r_2 =>
 (m_guard_Clear p s_ r_2).bind fun r_3 =>
 bif (bif (!decide (r_3.2 = 0)) then true else (!decide ((r_3.1.state.closed.length : Int) = (s_.closed.length : Int)))) then
 some false
 else
 (m_plant_Live p s_).bind fun r_4 =>
 (m_plant_Live p r_3.1.state).bind fun r_5 =>
 bif (bif (bif (bif (!decide (r_4.2 = 0)) then true else (!decide (r_5.2 = 0))) then true else (!decide ((r_4.1.length : Int) = (r_5.1.length : Int)))) then true else (!decide ((r_4.1.length : Int) = p.buses))) then
 some false
 else
 Option.bind (loopO (m_law03_GuardOpens_L0 r_4 r_5) FUEL (0)) fun o => match o with
 | .ret v => some v
 | .brk _ =>
 (m_kit_CopyState r_3.1.state).bind fun r_6 =>
 Option.bind (loopO (m_law03_GuardOpens_L1 s_) FUEL (r_6.closed, 0)) fun o => match o with
 | .ret v => some v
 | .brk t01 =>
 asO (((0 : Int) ≤ r_2 ∧ r_2 < (r_4.1.length : Int)) ∧ (gB [(r_3.1.cleared, true), ((bif (!(at' r_4.1 r_2.toNat)) then (bif (bif (!r_3.1.cleared) then true else (!decide (r_3.1.energy = 0))) then true else (!decide ((r_3.1.events.length : Int) = 0))) else false), false)] = true → (0 : Int) ≤ r_2 ∧ r_2 < (r_5.1.length : Int))) (
 bif (bif (bif (!(at' r_4.1 r_2.toNat)) then (bif (bif (!r_3.1.cleared) then true else (!decide (r_3.1.energy = 0))) then true else (!decide ((r_3.1.events.length : Int) = 0))) else false) then true else (bif r_3.1.cleared then (at' r_5.1 r_2.toNat) else false)) then
 some false
 else
 (m_kit_SameState (⟨t01, r_6.locked, r_6.badLink, r_6.on_, r_6.badSource, r_6.earthed, r_6.badBus⟩ : State) s_).bind fun r_7 =>
 (bif gB [(r_7, true)] then m_law03_awake else some default).bind fun r_8 =>
 some (bif r_7 then r_8 else false))
end Sg
