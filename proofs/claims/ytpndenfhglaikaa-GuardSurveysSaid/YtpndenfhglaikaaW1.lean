import Derived.Test.YtpndenfhglaikaaW0
set_option linter.all false
namespace Sg
open Go Go.Proofs
set_option maxRecDepth 20000
noncomputable section
section
variable (u0:Machine) (u2:Bool) (o4:(List Bool)) (r_:(Machine × Bool)) (o0:(List Event)) (u1:(Bool × Machine × Bool))
abbrev agK:List (Nat × Option Ob):=[(Bh u0 u2),(pE u0),(jH u0),(gV u0),(gu u0),(fP u0),(fI u0),(fB u0),(eZ u0),(jO u0),OL]
abbrev ae1:List CV:=[(.own 48 false u0.clearing.events.length),(cB u0.clearing.cleared),(cI u0.clearing.millis),(cI u0.clearing.energy),(.own 2 false u0.clearing.state.closed.length),(.own 3 false u0.clearing.state.locked.length),(.own 4 false u0.clearing.state.badLink.length),(.own 5 false u0.clearing.state.on_.length),(.own 6 false u0.clearing.state.badSource.length),(.own 7 false u0.clearing.state.earthed.length),(.own 8 false u0.clearing.state.badBus.length),(cI u0.p.buses),(.d (vT u0)),(.d (uH u0)),(.d (vR u0)),(cI u0.bus),(.d (wH u0 u2)),(cI u0.total),(.mp 9),(cI u0.now)]
abbrev ahs:=(⟨o4,u0.clearing.state.locked,u0.clearing.state.badLink,u0.clearing.state.on_,u0.clearing.state.badSource,u0.clearing.state.earthed,u0.clearing.state.badBus⟩:State)
abbrev wI:Nat × Option Ob:=(9,some (MN 3 3 false false 1 1 (aA .i64) (aA .i64) r_.1.since))
abbrev ahe:List (Nat × Option Ob):=[(0,some (.cells 137 [(.own 26 false o0.length),(cB r_.1.clearing.cleared),(cI r_.1.clearing.millis),(cI r_.1.clearing.energy),(.own 27 false o4.length),(.own 3 false u0.clearing.state.locked.length),(.own 4 false u0.clearing.state.badLink.length),(.own 5 false u0.clearing.state.on_.length),(.own 6 false u0.clearing.state.badSource.length),(.own 7 false u0.clearing.state.earthed.length),(.own 8 false u0.clearing.state.badBus.length),(cI r_.1.p.buses),(.d (aC none 5 Source.cell r_.1.p.sources)),(.d (aC none 6 Link.cell r_.1.p.links)),(.d (aC none 4 aJ.cell r_.1.p.racks)),(cI r_.1.bus),(.d (aC (some r_.2) 1 (aA .i64) r_.1.amps)),(cI r_.1.total),(.mp 9),(cI r_.1.now)])),(1,none),(2,none),(gV u0),(gu u0),(fP u0),(fI u0),(fB u0),(eZ u0),(wI r_),OL,(Lf o0),(Lp o4)]
abbrev QH:Nat × Option Ob:=(0,some (.cells 137 [(.own 26 false o0.length),(cB true),(cI r_.1.clearing.millis),(cI r_.1.clearing.energy),(.own 27 false o4.length),(.own 3 false u0.clearing.state.locked.length),(.own 4 false u0.clearing.state.badLink.length),(.own 5 false u0.clearing.state.on_.length),(.own 6 false u0.clearing.state.badSource.length),(.own 7 false u0.clearing.state.earthed.length),(.own 8 false u0.clearing.state.badBus.length),(cI r_.1.p.buses),(.d (aC none 5 Source.cell r_.1.p.sources)),(.d (aC none 6 Link.cell r_.1.p.links)),(.d (aC none 4 aJ.cell r_.1.p.racks)),(cI r_.1.bus),(.d (aC (some r_.2) 1 (aA .i64) r_.1.amps)),(cI r_.1.total),(.mp 9),(cI r_.1.now)]))
abbrev aip:List CV:=[(.own 26 false o0.length),(cB true),(cI r_.1.clearing.millis),(cI r_.1.clearing.energy),(.own 27 false o4.length),(.own 3 false u0.clearing.state.locked.length),(.own 4 false u0.clearing.state.badLink.length),(.own 5 false u0.clearing.state.on_.length),(.own 6 false u0.clearing.state.badSource.length),(.own 7 false u0.clearing.state.earthed.length),(.own 8 false u0.clearing.state.badBus.length)]
abbrev ajI:List CV:=[(.own 26 false o0.length),(cB true),(cI r_.1.clearing.millis),(cI r_.1.clearing.energy),(.own 27 false o4.length),(.own 34 false u0.clearing.state.locked.length),(.own 4 false u0.clearing.state.badLink.length),(.own 5 false u0.clearing.state.on_.length),(.own 6 false u0.clearing.state.badSource.length),(.own 7 false u0.clearing.state.earthed.length),(.own 8 false u0.clearing.state.badBus.length)]
abbrev UW:Nat × Option Ob:=(34,some (Uw u0))
abbrev aiN:List CV:=[(.own 26 false o0.length),(cB true),(cI r_.1.clearing.millis),(cI r_.1.clearing.energy),(.own 27 false o4.length),(.own 34 false u0.clearing.state.locked.length),(.own 35 false u0.clearing.state.badLink.length),(.own 5 false u0.clearing.state.on_.length),(.own 6 false u0.clearing.state.badSource.length),(.own 7 false u0.clearing.state.earthed.length),(.own 8 false u0.clearing.state.badBus.length)]
abbrev Wn:Nat × Option Ob:=(35,some (U5 u0))
abbrev ail:List CV:=[(.own 26 false o0.length),(cB true),(cI r_.1.clearing.millis),(cI r_.1.clearing.energy),(.own 27 false o4.length),(.own 34 false u0.clearing.state.locked.length),(.own 35 false u0.clearing.state.badLink.length),(.own 36 false u0.clearing.state.on_.length),(.own 6 false u0.clearing.state.badSource.length),(.own 7 false u0.clearing.state.earthed.length),(.own 8 false u0.clearing.state.badBus.length)]
abbrev YX:Nat × Option Ob:=(36,some (UA u0))
abbrev afd:List CV:=[(.own 26 false o0.length),(cB true),(cI r_.1.clearing.millis),(cI r_.1.clearing.energy),(.own 27 false o4.length),(.own 34 false u0.clearing.state.locked.length),(.own 35 false u0.clearing.state.badLink.length),(.own 36 false u0.clearing.state.on_.length),(.own 37 false u0.clearing.state.badSource.length),(.own 7 false u0.clearing.state.earthed.length),(.own 8 false u0.clearing.state.badBus.length)]
abbrev adK:Nat × Option Ob:=(37,some (VH u0))
abbrev agJ:List CV:=[(.own 26 false o0.length),(cB true),(cI r_.1.clearing.millis),(cI r_.1.clearing.energy),(.own 27 false o4.length),(.own 34 false u0.clearing.state.locked.length),(.own 35 false u0.clearing.state.badLink.length),(.own 36 false u0.clearing.state.on_.length),(.own 37 false u0.clearing.state.badSource.length),(.own 38 false u0.clearing.state.earthed.length),(.own 8 false u0.clearing.state.badBus.length)]
abbrev ZM:Nat × Option Ob:=(12,some (Uw u0))
abbrev aa3:Nat × Option Ob:=(13,some (U5 u0))
abbrev aal:Nat × Option Ob:=(14,some (UA u0))
abbrev ZB:Nat × Option Ob:=(15,some (VH u0))
abbrev Zd:Nat × Option Ob:=(16,some (Pm u0))
abbrev ZO:Nat × Option Ob:=(17,some (V3 u0))
abbrev aeI:List CV:=[(.own 10 false o0.length),(cB true),(cI r_.1.clearing.millis),(cI r_.1.clearing.energy),(.own 11 false o4.length),(.own 12 false u0.clearing.state.locked.length),(.own 13 false u0.clearing.state.badLink.length),(.own 14 false u0.clearing.state.on_.length),(.own 15 false u0.clearing.state.badSource.length),(.own 16 false u0.clearing.state.earthed.length),(.own 17 false u0.clearing.state.badBus.length)]
abbrev ahL:Nat × Option Ob:=(18,some (.cells 36 (aeI u0 o4 r_ o0)))
abbrev QF:Nat × Option Ob:=(0,some (.cells 137 [(.own 40 false u1.2.1.clearing.events.length),(cB u1.2.1.clearing.cleared),(cI u1.2.1.clearing.millis),(cI u1.2.1.clearing.energy),(.own 41 false u1.2.1.clearing.state.closed.length),(.own 3 false u0.clearing.state.locked.length),(.own 4 false u0.clearing.state.badLink.length),(.own 5 false u0.clearing.state.on_.length),(.own 6 false u0.clearing.state.badSource.length),(.own 7 false u0.clearing.state.earthed.length),(.own 8 false u0.clearing.state.badBus.length),(cI u1.2.1.p.buses),(.d (aC none 5 Source.cell u1.2.1.p.sources)),(.d (aC none 6 Link.cell u1.2.1.p.links)),(.d (aC none 4 aJ.cell u1.2.1.p.racks)),(cI u1.2.1.bus),(.d (aC (some u1.2.2) 1 (aA .i64) u1.2.1.amps)),(cI u1.2.1.total),(.mp 9),(cI u1.2.1.now)]))
abbrev QL:Nat × Option Ob:=(40,some (aG 56 2 Event.cell u1.2.1.clearing.events))
abbrev Qd:Nat × Option Ob:=(41,some (aG 4 1 ah u1.2.1.clearing.state.closed))
abbrev ahr:List CV:=[(.own 40 false u1.2.1.clearing.events.length),(cB u1.2.1.clearing.cleared),(cI u1.2.1.clearing.millis),(cI u1.2.1.clearing.energy),(.own 41 false u1.2.1.clearing.state.closed.length),(.own 3 false u0.clearing.state.locked.length),(.own 4 false u0.clearing.state.badLink.length),(.own 5 false u0.clearing.state.on_.length),(.own 6 false u0.clearing.state.badSource.length),(.own 7 false u0.clearing.state.earthed.length),(.own 8 false u0.clearing.state.badBus.length)]
abbrev ae6:List CV:=[(.own 40 false u1.2.1.clearing.events.length),(cB u1.2.1.clearing.cleared),(cI u1.2.1.clearing.millis),(cI u1.2.1.clearing.energy),(.own 41 false u1.2.1.clearing.state.closed.length),(.own 42 false u0.clearing.state.locked.length),(.own 4 false u0.clearing.state.badLink.length),(.own 5 false u0.clearing.state.on_.length),(.own 6 false u0.clearing.state.badSource.length),(.own 7 false u0.clearing.state.earthed.length),(.own 8 false u0.clearing.state.badBus.length)]
abbrev Vs:Nat × Option Ob:=(42,some (Uw u0))
abbrev ajD:List CV:=[(.own 40 false u1.2.1.clearing.events.length),(cB u1.2.1.clearing.cleared),(cI u1.2.1.clearing.millis),(cI u1.2.1.clearing.energy),(.own 41 false u1.2.1.clearing.state.closed.length),(.own 42 false u0.clearing.state.locked.length),(.own 43 false u0.clearing.state.badLink.length),(.own 5 false u0.clearing.state.on_.length),(.own 6 false u0.clearing.state.badSource.length),(.own 7 false u0.clearing.state.earthed.length),(.own 8 false u0.clearing.state.badBus.length)]
abbrev YA:Nat × Option Ob:=(43,some (U5 u0))
abbrev agU:List CV:=[(.own 40 false u1.2.1.clearing.events.length),(cB u1.2.1.clearing.cleared),(cI u1.2.1.clearing.millis),(cI u1.2.1.clearing.energy),(.own 41 false u1.2.1.clearing.state.closed.length),(.own 42 false u0.clearing.state.locked.length),(.own 43 false u0.clearing.state.badLink.length),(.own 44 false u0.clearing.state.on_.length),(.own 6 false u0.clearing.state.badSource.length),(.own 7 false u0.clearing.state.earthed.length),(.own 8 false u0.clearing.state.badBus.length)]
abbrev Y3:Nat × Option Ob:=(44,some (UA u0))
abbrev ahE:List CV:=[(.own 40 false u1.2.1.clearing.events.length),(cB u1.2.1.clearing.cleared),(cI u1.2.1.clearing.millis),(cI u1.2.1.clearing.energy),(.own 41 false u1.2.1.clearing.state.closed.length),(.own 42 false u0.clearing.state.locked.length),(.own 43 false u0.clearing.state.badLink.length),(.own 44 false u0.clearing.state.on_.length),(.own 45 false u0.clearing.state.badSource.length),(.own 7 false u0.clearing.state.earthed.length),(.own 8 false u0.clearing.state.badBus.length)]
abbrev adE:Nat × Option Ob:=(45,some (VH u0))
abbrev agX:List CV:=[(.own 40 false u1.2.1.clearing.events.length),(cB u1.2.1.clearing.cleared),(cI u1.2.1.clearing.millis),(cI u1.2.1.clearing.energy),(.own 41 false u1.2.1.clearing.state.closed.length),(.own 42 false u0.clearing.state.locked.length),(.own 43 false u0.clearing.state.badLink.length),(.own 44 false u0.clearing.state.on_.length),(.own 45 false u0.clearing.state.badSource.length),(.own 46 false u0.clearing.state.earthed.length),(.own 8 false u0.clearing.state.badBus.length)]
abbrev ajj:List CV:=[(.own 10 false u1.2.1.clearing.events.length),(cB u1.2.1.clearing.cleared),(cI u1.2.1.clearing.millis),(cI u1.2.1.clearing.energy),(.own 11 false u1.2.1.clearing.state.closed.length),(.own 12 false u0.clearing.state.locked.length),(.own 13 false u0.clearing.state.badLink.length),(.own 14 false u0.clearing.state.on_.length),(.own 15 false u0.clearing.state.badSource.length),(.own 16 false u0.clearing.state.earthed.length),(.own 17 false u0.clearing.state.badBus.length)]
abbrev afx:Nat × Option Ob:=(18,some (.cells 36 (ajj u0 u1)))
end
theorem zY (u0:Machine) (u2:Bool) {r:(aj × (List (Int × Int)))} (h:iL u0 u2=some r):Fn Try.prog 63 [(.one (.ptr 0 0))] (Pp u0 u2) (.v (.agg [(.own 10 false r.1.events.length),(cB r.1.cleared),(cI r.1.millis),(cI r.1.energy),(.own 11 false r.1.state.closed.length),(.own 12 false r.1.state.locked.length),(.own 13 false r.1.state.badLink.length),(.own 14 false r.1.state.on_.length),(.own 15 false r.1.state.badSource.length),(.own 16 false r.1.state.earthed.length),(.own 17 false r.1.state.badBus.length)])) [(0,none),(1,none),(2,none),(3,none),(4,none),(5,none),(6,none),(7,none),(8,none),(9,some (MN 3 3 false false 1 1 (aA .i64) (aA .i64) r.2)),(10,some (aG 56 2 Event.cell r.1.events)),(11,some (aG 4 1 ah r.1.state.closed)),(12,some (aG 4 1 ah r.1.state.locked)),(13,some (aG 4 1 ah r.1.state.badLink)),(14,some (aG 4 1 ah r.1.state.on_)),(15,some (aG 4 1 ah r.1.state.badSource)),(16,some (aG 4 1 ah r.1.state.earthed)),(17,some (aG 4 1 ah r.1.state.badBus)),(18,none)]:=by
 refine fN tT Try.func63 rfl rfl fun B=> ?_
 show bJ _ _ _ _ _ _ (lM r) _
 unfold iL at h
 refine sz tT ⟨[(0,(vP 0 0)),(2,(vP 23 0))],(agK u0 u2)⟩ {fr:=[(0,23)] } [] ?_
 refine bE h fun y hy h=> ?_
 refine Ti 0 rfl [] (qi u0) (fun _:Unit=>(⟨[],[]⟩:St)) lM hy ?_ (fun s f h=> ?_) ?_
 ·clear hy
  refine ri tT ⟨R4,(agK u0 u2)⟩ [] {} [] trivial (.trans (bG.pI (E0:=137) (cs:=(acY u0 u2)) (nn:=false) (len:=u0.clearing.events.length) (E:=56) (esz:=2) (n:=u0.clearing.events.length) (el:=au Event.cell u0.clearing.events) (p:=0) (q:=0) (b:=1) (b':=48) (by kernel_rfl) (by kernel_rfl) (by kernel_rfl) (by kernel_rfl)) (.trans (fz ⟨R4,[(0,some (.cells 137 (ae1 u0 u2))),(1,none),(jH u0),(gV u0),(gu u0),(fP u0),(fI u0),(fB u0),(eZ u0),(jO u0),OL,(48,some (Kc u0))]⟩ []) (.trans (bG.pI (E0:=137) (cs:=(ae1 u0 u2)) (nn:=false) (len:=u0.clearing.state.closed.length) (E:=4) (esz:=1) (n:=u0.clearing.state.closed.length) (el:=au ah u0.clearing.state.closed) (p:=0) (q:=4) (b:=2) (b':=49) (by kernel_rfl) (by kernel_rfl) (by kernel_rfl) (by kernel_rfl)) (.trans (fz ⟨R4,[(0,some (.cells 137 [(.own 48 false u0.clearing.events.length),(cB u0.clearing.cleared),(cI u0.clearing.millis),(cI u0.clearing.energy),(.own 49 false u0.clearing.state.closed.length),(.own 3 false u0.clearing.state.locked.length),(.own 4 false u0.clearing.state.badLink.length),(.own 5 false u0.clearing.state.on_.length),(.own 6 false u0.clearing.state.badSource.length),(.own 7 false u0.clearing.state.earthed.length),(.own 8 false u0.clearing.state.badBus.length),(cI u0.p.buses),(.d (vT u0)),(.d (uH u0)),(.d (vR u0)),(cI u0.bus),(.d (wH u0 u2)),(cI u0.total),(.mp 9),(cI u0.now)])),(1,none),(2,none),(gV u0),(gu u0),(fP u0),(fI u0),(fB u0),(eZ u0),(jO u0),OL,(48,some (Kc u0)),(49,some (SH u0))]⟩ []) (bG.fin (st':=⟨R4,[(0,some (.cells 137 [(.own 26 false u0.clearing.events.length),(cB u0.clearing.cleared),(cI u0.clearing.millis),(cI u0.clearing.energy),(.own 27 false u0.clearing.state.closed.length),(.own 3 false u0.clearing.state.locked.length),(.own 4 false u0.clearing.state.badLink.length),(.own 5 false u0.clearing.state.on_.length),(.own 6 false u0.clearing.state.badSource.length),(.own 7 false u0.clearing.state.earthed.length),(.own 8 false u0.clearing.state.badBus.length),(cI u0.p.buses),(.d (vT u0)),(.d (uH u0)),(.d (vR u0)),(cI u0.bus),(.d (wH u0 u2)),(cI u0.total),(.mp 9),(cI u0.now)])),(1,none),(2,none),(gV u0),(gu u0),(fP u0),(fI u0),(fB u0),(eZ u0),(jO u0),OL,(26,some (Kc u0)),(27,some (SH u0))]⟩) (cs:=[]) ⟨[],[(0,0),(1,1),(2,2),(3,3),(4,4),(5,5),(6,6),(7,7),(8,8),(9,9),(23,23),(48,26),(49,27)]⟩ [0,2,3] (by kernel_rfl) trivial))))) ?_
  exact⟨rfl,(by kernel_rfl)⟩
 ·clear hy
  show bJ _ _ _ _ _ _ ((zW u0) f) _
  unfold dD at h
  obtain⟨o0,o1,o2,o3,o4,u3,u4,u5,u6,u7,u8,u9,v0,v1,v2⟩:=s
  refine aQ (bE h fun r_ hr_ h=> ?_)
  have q0:=rk [(1,26),(2,27)] (zw (⟨(⟨o0,o1,o2,o3,(ahs u0 o4)⟩:aj),(⟨u3,u4,u5,u6⟩:ai),u7,u9,v0,v1,v2⟩:Machine) u8 hr_)
  refine rg tT ⟨R4,(ahe u0 o4 r_ o0)⟩ [_] {an:=[(1,cA q0 [0,26,27,3,4,5,6,7,8,9])] } [] ⟨q0,trivial⟩ ?_
  refine aQ (sz tT ⟨[(0,(vP 0 0)),(2,(vP 23 0)),ad4,(12,(vB (decide (r_.1.total=0))))],(ahe u0 o4 r_ o0)⟩ {} [] ?_)
  refine bI h (fun hb1 h=> ?_) (fun hb1 h=> ?_)
  ·refine ct hb1 ?_
   refine sz tT ⟨[(0,(vP 0 0)),(2,(vP 23 0))],[(QH u0 o4 r_ o0),(1,none),(2,none),(gV u0),(gu u0),(fP u0),(fI u0),(fB u0),(eZ u0),(wI r_),OL,(Lf o0),(Lp o4)]⟩ {} [] ?_
   refine sz tT ⟨[(2,(vP 23 0))],[(QH u0 o4 r_ o0),(1,none),(2,none),(gV u0),(gu u0),(fP u0),(fI u0),(fB u0),(eZ u0),(wI r_),(23,some (.cells 36 (aip u0 o4 r_ o0))),(Lf o0),(Lp o4)]⟩ {} [] ?_
   refine aI (.trans (bG.pI (E0:=36) (cs:=(aip u0 o4 r_ o0)) (nn:=false) (len:=u0.clearing.state.locked.length) (E:=4) (esz:=1) (n:=u0.clearing.state.locked.length) (el:=au ah u0.clearing.state.locked) (p:=23) (q:=5) (b:=3) (b':=34) (by kernel_rfl) (by kernel_rfl) (by kernel_rfl) (by kernel_rfl)) (.trans (fz ⟨[(2,(vP 23 0))],[(QH u0 o4 r_ o0),(1,none),(2,none),(3,none),(gu u0),(fP u0),(fI u0),(fB u0),(eZ u0),(wI r_),(23,some (.cells 36 (ajI u0 o4 r_ o0))),(Lf o0),(Lp o4),(UW u0)]⟩ []) (.trans (bG.pI (E0:=36) (cs:=(ajI u0 o4 r_ o0)) (nn:=false) (len:=u0.clearing.state.badLink.length) (E:=4) (esz:=1) (n:=u0.clearing.state.badLink.length) (el:=au ah u0.clearing.state.badLink) (p:=23) (q:=6) (b:=4) (b':=35) (by kernel_rfl) (by kernel_rfl) (by kernel_rfl) (by kernel_rfl)) (.trans (fz ⟨[(2,(vP 23 0))],[(QH u0 o4 r_ o0),(1,none),(2,none),(3,none),(4,none),(fP u0),(fI u0),(fB u0),(eZ u0),(wI r_),(23,some (.cells 36 (aiN u0 o4 r_ o0))),(Lf o0),(Lp o4),(UW u0),(Wn u0)]⟩ []) (.trans (bG.pI (E0:=36) (cs:=(aiN u0 o4 r_ o0)) (nn:=false) (len:=u0.clearing.state.on_.length) (E:=4) (esz:=1) (n:=u0.clearing.state.on_.length) (el:=au ah u0.clearing.state.on_) (p:=23) (q:=7) (b:=5) (b':=36) (by kernel_rfl) (by kernel_rfl) (by kernel_rfl) (by kernel_rfl)) (.trans (fz ⟨[(2,(vP 23 0))],[(QH u0 o4 r_ o0),(1,none),(2,none),(3,none),(4,none),(5,none),(fI u0),(fB u0),(eZ u0),(wI r_),(23,some (.cells 36 (ail u0 o4 r_ o0))),(Lf o0),(Lp o4),(UW u0),(Wn u0),(YX u0)]⟩ []) (.trans (bG.pI (E0:=36) (cs:=(ail u0 o4 r_ o0)) (nn:=false) (len:=u0.clearing.state.badSource.length) (E:=4) (esz:=1) (n:=u0.clearing.state.badSource.length) (el:=au ah u0.clearing.state.badSource) (p:=23) (q:=8) (b:=6) (b':=37) (by kernel_rfl) (by kernel_rfl) (by kernel_rfl) (by kernel_rfl)) (.trans (fz ⟨[(2,(vP 23 0))],[(QH u0 o4 r_ o0),(1,none),(2,none),(3,none),(4,none),(5,none),(6,none),(fB u0),(eZ u0),(wI r_),(23,some (.cells 36 (afd u0 o4 r_ o0))),(Lf o0),(Lp o4),(UW u0),(Wn u0),(YX u0),(adK u0)]⟩ []) (.trans (bG.pI (E0:=36) (cs:=(afd u0 o4 r_ o0)) (nn:=false) (len:=u0.clearing.state.earthed.length) (E:=4) (esz:=1) (n:=u0.clearing.state.earthed.length) (el:=au ah u0.clearing.state.earthed) (p:=23) (q:=9) (b:=7) (b':=38) (by kernel_rfl) (by kernel_rfl) (by kernel_rfl) (by kernel_rfl)) (.trans (fz ⟨[(2,(vP 23 0))],[(QH u0 o4 r_ o0),(1,none),(2,none),(3,none),(4,none),(5,none),(6,none),(7,none),(eZ u0),(wI r_),(23,some (.cells 36 (agJ u0 o4 r_ o0))),(Lf o0),(Lp o4),(UW u0),(Wn u0),(YX u0),(adK u0),(38,some (Pm u0))]⟩ []) (.trans (bG.pI (E0:=36) (cs:=(agJ u0 o4 r_ o0)) (nn:=false) (len:=u0.clearing.state.badBus.length) (E:=4) (esz:=1) (n:=u0.clearing.state.badBus.length) (el:=au ah u0.clearing.state.badBus) (p:=23) (q:=10) (b:=8) (b':=39) (by kernel_rfl) (by kernel_rfl) (by kernel_rfl) (by kernel_rfl)) (.trans (fz ⟨[(2,(vP 23 0))],[(QH u0 o4 r_ o0),(1,none),(2,none),(3,none),(4,none),(5,none),(6,none),(7,none),(8,none),(wI r_),(23,some (.cells 36 [(.own 26 false o0.length),(cB true),(cI r_.1.clearing.millis),(cI r_.1.clearing.energy),(.own 27 false o4.length),(.own 34 false u0.clearing.state.locked.length),(.own 35 false u0.clearing.state.badLink.length),(.own 36 false u0.clearing.state.on_.length),(.own 37 false u0.clearing.state.badSource.length),(.own 38 false u0.clearing.state.earthed.length),(.own 39 false u0.clearing.state.badBus.length)])),(Lf o0),(Lp o4),(UW u0),(Wn u0),(YX u0),(adK u0),(38,some (Pm u0)),(39,some (V3 u0))]⟩ []) (.trans (bG.fin (st':=⟨[(2,(vP 18 0))],[(0,some (.cells 137 [(.own 10 false o0.length),(cB true),(cI r_.1.clearing.millis),(cI r_.1.clearing.energy),(.own 11 false o4.length),(.own 3 false u0.clearing.state.locked.length),(.own 4 false u0.clearing.state.badLink.length),(.own 5 false u0.clearing.state.on_.length),(.own 6 false u0.clearing.state.badSource.length),(.own 7 false u0.clearing.state.earthed.length),(.own 8 false u0.clearing.state.badBus.length),(cI r_.1.p.buses),(.d (aC none 5 Source.cell r_.1.p.sources)),(.d (aC none 6 Link.cell r_.1.p.links)),(.d (aC none 4 aJ.cell r_.1.p.racks)),(cI r_.1.bus),(.d (aC (some r_.2) 1 (aA .i64) r_.1.amps)),(cI r_.1.total),(.mp 9),(cI r_.1.now)])),(1,none),(2,none),(3,none),(4,none),(5,none),(6,none),(7,none),(8,none),(wI r_),(10,some (aG 56 2 Event.cell o0)),(Uf o4),(ZM u0),(aa3 u0),(aal u0),(ZB u0),(Zd u0),(ZO u0),(ahL u0 o4 r_ o0)]⟩) (cs:=[]) ⟨[],[(0,0),(1,1),(2,2),(3,3),(4,4),(5,5),(6,6),(7,7),(8,8),(9,9),(26,10),(27,11),(34,12),(35,13),(36,14),(37,15),(38,16),(39,17),(23,18)]⟩ [2] (by kernel_rfl) trivial) (bG.le (st':=⟨[(2,(vP 18 0))],[(0,none),(1,none),(2,none),(3,none),(4,none),(5,none),(6,none),(7,none),(8,none),(wI r_),(10,some (aG 56 2 Event.cell o0)),(Uf o4),(ZM u0),(aa3 u0),(aal u0),(ZB u0),(Zd u0),(ZO u0),(ahL u0 o4 r_ o0)]⟩) ⟨⟨tR,trivial⟩,⟨rfl,trivial,(.refl _)⟩⟩)))))))))))))) ?_
   refine aR ?_
   obtain rfl:=oi h
   exact Yc WO dF dB (bn.mk (.inr rfl) (p:=[]) (l:=[(.agg (aeI u0 o4 r_ o0))]) (by kernel_rfl) trivial (fC.refl _) ⟨rfl,trivial,⟨rfl,trivial,⟨rfl,trivial,⟨rfl,trivial,⟨rfl,trivial,⟨rfl,trivial,⟨rfl,trivial,⟨rfl,trivial,⟨rfl,trivial,(hN 9 ⟨rfl,trivial,trivial⟩)⟩⟩⟩⟩⟩⟩⟩⟩⟩)
  ·refine cf hb1 ?_
   refine aP (aQ (aQ (bE h fun u1 hr_1 h=> ?_)))
   have q0:=rk [(1,26),(2,27),(10,40),(11,41)] (xR (⟨(⟨o0,r_.1.clearing.cleared,r_.1.clearing.millis,r_.1.clearing.energy,(ahs u0 o4)⟩:aj),r_.1.p,r_.1.bus,r_.1.amps,r_.1.total,r_.1.since,r_.1.now⟩:Machine) r_.2 hr_1)
   refine rg tT ⟨[(0,(vP 0 0)),(2,(vP 23 0)),ad4,(22,(vB u1.1))],[(QF u0 u1),(1,none),(2,none),(gV u0),(gu u0),(fP u0),(fI u0),(fB u0),(eZ u0),(wI r_),OL,(QL u1),(Qd u1)]⟩ [_] {an:=[(1,cA q0 [0,26,27,3,4,5,6,7,8,9])] } [] ⟨q0,trivial⟩ ?_
   refine bI h (fun hb h=> ?_) (fun hb h=> ?_)
   ·refine ct hb ?_
    refine aI (bG.fin (st':=⟨R4,[(0,some (.cells 137 [(.own 26 false u1.2.1.clearing.events.length),(cB u1.2.1.clearing.cleared),(cI u1.2.1.clearing.millis),(cI u1.2.1.clearing.energy),(.own 27 false u1.2.1.clearing.state.closed.length),(.own 3 false u0.clearing.state.locked.length),(.own 4 false u0.clearing.state.badLink.length),(.own 5 false u0.clearing.state.on_.length),(.own 6 false u0.clearing.state.badSource.length),(.own 7 false u0.clearing.state.earthed.length),(.own 8 false u0.clearing.state.badBus.length),(cI u1.2.1.p.buses),(.d (aC none 5 Source.cell u1.2.1.p.sources)),(.d (aC none 6 Link.cell u1.2.1.p.links)),(.d (aC none 4 aJ.cell u1.2.1.p.racks)),(cI u1.2.1.bus),(.d (aC (some u1.2.2) 1 (aA .i64) u1.2.1.amps)),(cI u1.2.1.total),(.mp 9),(cI u1.2.1.now)])),(1,none),(2,none),(gV u0),(gu u0),(fP u0),(fI u0),(fB u0),(eZ u0),(wI r_),OL,(26,some (aG 56 2 Event.cell u1.2.1.clearing.events)),(27,some (aG 4 1 ah u1.2.1.clearing.state.closed))]⟩) (cs:=[]) ⟨[],[(0,0),(1,1),(2,2),(3,3),(4,4),(5,5),(6,6),(7,7),(8,8),(9,9),(23,23),(40,26),(41,27)]⟩ [0,2,3] (by kernel_rfl) trivial) ?_
    refine XF ?_
    obtain rfl:=oi h
    exact Zo (by kernel_rfl)
   ·refine cf hb ?_
    refine aP (sz tT ⟨[(2,(vP 23 0))],[(QF u0 u1),(1,none),(2,none),(gV u0),(gu u0),(fP u0),(fI u0),(fB u0),(eZ u0),(wI r_),(23,some (.cells 36 (ahr u0 u1))),(QL u1),(Qd u1)]⟩ {} [] ?_)
    refine aI (.trans (bG.pI (E0:=36) (cs:=(ahr u0 u1)) (nn:=false) (len:=u0.clearing.state.locked.length) (E:=4) (esz:=1) (n:=u0.clearing.state.locked.length) (el:=au ah u0.clearing.state.locked) (p:=23) (q:=5) (b:=3) (b':=42) (by kernel_rfl) (by kernel_rfl) (by kernel_rfl) (by kernel_rfl)) (.trans (fz ⟨[(2,(vP 23 0))],[(QF u0 u1),(1,none),(2,none),(3,none),(gu u0),(fP u0),(fI u0),(fB u0),(eZ u0),(wI r_),(23,some (.cells 36 (ae6 u0 u1))),(QL u1),(Qd u1),(Vs u0)]⟩ []) (.trans (bG.pI (E0:=36) (cs:=(ae6 u0 u1)) (nn:=false) (len:=u0.clearing.state.badLink.length) (E:=4) (esz:=1) (n:=u0.clearing.state.badLink.length) (el:=au ah u0.clearing.state.badLink) (p:=23) (q:=6) (b:=4) (b':=43) (by kernel_rfl) (by kernel_rfl) (by kernel_rfl) (by kernel_rfl)) (.trans (fz ⟨[(2,(vP 23 0))],[(QF u0 u1),(1,none),(2,none),(3,none),(4,none),(fP u0),(fI u0),(fB u0),(eZ u0),(wI r_),(23,some (.cells 36 (ajD u0 u1))),(QL u1),(Qd u1),(Vs u0),(YA u0)]⟩ []) (.trans (bG.pI (E0:=36) (cs:=(ajD u0 u1)) (nn:=false) (len:=u0.clearing.state.on_.length) (E:=4) (esz:=1) (n:=u0.clearing.state.on_.length) (el:=au ah u0.clearing.state.on_) (p:=23) (q:=7) (b:=5) (b':=44) (by kernel_rfl) (by kernel_rfl) (by kernel_rfl) (by kernel_rfl)) (.trans (fz ⟨[(2,(vP 23 0))],[(QF u0 u1),(1,none),(2,none),(3,none),(4,none),(5,none),(fI u0),(fB u0),(eZ u0),(wI r_),(23,some (.cells 36 (agU u0 u1))),(QL u1),(Qd u1),(Vs u0),(YA u0),(Y3 u0)]⟩ []) (.trans (bG.pI (E0:=36) (cs:=(agU u0 u1)) (nn:=false) (len:=u0.clearing.state.badSource.length) (E:=4) (esz:=1) (n:=u0.clearing.state.badSource.length) (el:=au ah u0.clearing.state.badSource) (p:=23) (q:=8) (b:=6) (b':=45) (by kernel_rfl) (by kernel_rfl) (by kernel_rfl) (by kernel_rfl)) (.trans (fz ⟨[(2,(vP 23 0))],[(QF u0 u1),(1,none),(2,none),(3,none),(4,none),(5,none),(6,none),(fB u0),(eZ u0),(wI r_),(23,some (.cells 36 (ahE u0 u1))),(QL u1),(Qd u1),(Vs u0),(YA u0),(Y3 u0),(adE u0)]⟩ []) (.trans (bG.pI (E0:=36) (cs:=(ahE u0 u1)) (nn:=false) (len:=u0.clearing.state.earthed.length) (E:=4) (esz:=1) (n:=u0.clearing.state.earthed.length) (el:=au ah u0.clearing.state.earthed) (p:=23) (q:=9) (b:=7) (b':=46) (by kernel_rfl) (by kernel_rfl) (by kernel_rfl) (by kernel_rfl)) (.trans (fz ⟨[(2,(vP 23 0))],[(QF u0 u1),(1,none),(2,none),(3,none),(4,none),(5,none),(6,none),(7,none),(eZ u0),(wI r_),(23,some (.cells 36 (agX u0 u1))),(QL u1),(Qd u1),(Vs u0),(YA u0),(Y3 u0),(adE u0),(46,some (Pm u0))]⟩ []) (.trans (bG.pI (E0:=36) (cs:=(agX u0 u1)) (nn:=false) (len:=u0.clearing.state.badBus.length) (E:=4) (esz:=1) (n:=u0.clearing.state.badBus.length) (el:=au ah u0.clearing.state.badBus) (p:=23) (q:=10) (b:=8) (b':=47) (by kernel_rfl) (by kernel_rfl) (by kernel_rfl) (by kernel_rfl)) (.trans (fz ⟨[(2,(vP 23 0))],[(QF u0 u1),(1,none),(2,none),(3,none),(4,none),(5,none),(6,none),(7,none),(8,none),(wI r_),(23,some (.cells 36 [(.own 40 false u1.2.1.clearing.events.length),(cB u1.2.1.clearing.cleared),(cI u1.2.1.clearing.millis),(cI u1.2.1.clearing.energy),(.own 41 false u1.2.1.clearing.state.closed.length),(.own 42 false u0.clearing.state.locked.length),(.own 43 false u0.clearing.state.badLink.length),(.own 44 false u0.clearing.state.on_.length),(.own 45 false u0.clearing.state.badSource.length),(.own 46 false u0.clearing.state.earthed.length),(.own 47 false u0.clearing.state.badBus.length)])),(QL u1),(Qd u1),(Vs u0),(YA u0),(Y3 u0),(adE u0),(46,some (Pm u0)),(47,some (V3 u0))]⟩ []) (.trans (bG.fin (st':=⟨[(2,(vP 18 0))],[(0,some (.cells 137 [(.own 10 false u1.2.1.clearing.events.length),(cB u1.2.1.clearing.cleared),(cI u1.2.1.clearing.millis),(cI u1.2.1.clearing.energy),(.own 11 false u1.2.1.clearing.state.closed.length),(.own 3 false u0.clearing.state.locked.length),(.own 4 false u0.clearing.state.badLink.length),(.own 5 false u0.clearing.state.on_.length),(.own 6 false u0.clearing.state.badSource.length),(.own 7 false u0.clearing.state.earthed.length),(.own 8 false u0.clearing.state.badBus.length),(cI u1.2.1.p.buses),(.d (aC none 5 Source.cell u1.2.1.p.sources)),(.d (aC none 6 Link.cell u1.2.1.p.links)),(.d (aC none 4 aJ.cell u1.2.1.p.racks)),(cI u1.2.1.bus),(.d (aC (some u1.2.2) 1 (aA .i64) u1.2.1.amps)),(cI u1.2.1.total),(.mp 9),(cI u1.2.1.now)])),(1,none),(2,none),(3,none),(4,none),(5,none),(6,none),(7,none),(8,none),(wI r_),(10,some (aG 56 2 Event.cell u1.2.1.clearing.events)),(11,some (aG 4 1 ah u1.2.1.clearing.state.closed)),(ZM u0),(aa3 u0),(aal u0),(ZB u0),(Zd u0),(ZO u0),(afx u0 u1)]⟩) (cs:=[]) ⟨[],[(0,0),(1,1),(2,2),(3,3),(4,4),(5,5),(6,6),(7,7),(8,8),(9,9),(40,10),(41,11),(42,12),(43,13),(44,14),(45,15),(46,16),(47,17),(23,18)]⟩ [2] (by kernel_rfl) trivial) (bG.le (st':=⟨[(2,(vP 18 0))],[(0,none),(1,none),(2,none),(3,none),(4,none),(5,none),(6,none),(7,none),(8,none),(wI r_),(10,some (aG 56 2 Event.cell u1.2.1.clearing.events)),(11,some (aG 4 1 ah u1.2.1.clearing.state.closed)),(ZM u0),(aa3 u0),(aal u0),(ZB u0),(Zd u0),(ZO u0),(afx u0 u1)]⟩) ⟨⟨tR,trivial⟩,⟨rfl,trivial,(.refl _)⟩⟩)))))))))))))) ?_
    refine aR ?_
    obtain rfl:=oi h
    exact Yc WO dF dB (bn.mk (.inr rfl) (p:=[]) (l:=[(.agg (ajj u0 u1))]) (by kernel_rfl) trivial (fC.refl _) ⟨rfl,trivial,⟨rfl,trivial,⟨rfl,trivial,⟨rfl,trivial,⟨rfl,trivial,⟨rfl,trivial,⟨rfl,trivial,⟨rfl,trivial,⟨rfl,trivial,(hN 9 ⟨rfl,trivial,trivial⟩)⟩⟩⟩⟩⟩⟩⟩⟩⟩)
 ·clear hy
  cases y with
  |brk z=>exact absurd h (by simp)
  |ret v=>
   obtain rfl:=oi h
   unfold fZ
   intro e st hn ha hR
   cases e with
   |normal=>exact absurd rfl hn
   |exit id=>exact hR
   |goto l=>exact hR
   |ret=>exact hR
   |panic c=>exact hR
   |outgrown=>exact hR
def qY  :Bool→Exit→St→Prop:=
  fun r=>bn TT [.tmp 4] (vB r) []
def wX (a:(List Int)) (b:(List Int)):Int→St:=
  fun i=> ⟨[(nL a),(uz b),(5,(vI i))],[]⟩
def xD  :Unit→St:=
  fun _=> ⟨[],[]⟩
def ET (a:(List Int)) (b:(List Int)):(aS Int (Ex Unit Bool))→Exit→St→Prop:=
  LQ 0 [] (wX a b) xD qY
section
variable (i:Int)
abbrev WJ:Nat × TV:=(5,(uM i))
end
theorem FN (a:(List Int)) (b:(List Int)) {r:Bool} (h:wh a b=some r):Fn Try.prog 54 [(sD (Ef a)),(sD (Ef b))] [] (vB r) []:=by
 refine fN tT Try.func54 rfl rfl fun B=> ?_
 show bJ _ _ _ _ _ _ (qY r) _
 unfold wh at h
 refine sz tT (Y0 a b) {} [] ?_
 refine aQ (sz tT ⟨[(nL a),(uz b),(10,(vB (!decide ((a.length:Int)=(b.length:Int)))))],[]⟩ {} [] ?_)
 refine bI h (fun hb2 h=> ?_) (fun hb2 h=> ?_)
 ·refine ct hb2 ?_
  refine sz tT ⟨[(4,(vB false))],[]⟩ {} [] ?_
  refine aR ?_
  obtain rfl:=oi h
  exact rl [(sB false)]
 ·refine cf hb2 ?_
  refine aP (aQ (sz tT ⟨[(nL a),(uz b),(5,(vI 0))],[]⟩ {} [] ?_))
  refine bE h fun y hy h=> ?_
  refine aL [] (wX a b) xD qY hy (fun s f h=> ?_) ?_
  ·clear hy
   show bJ _ _ _ _ _ _ ((ET a b) f) _
   unfold xJ at h
   obtain⟨i,rfl⟩: ∃q,q=s:=⟨_,rfl⟩
   refine aQ (sz tT ⟨[(nL a),(uz b),(5,(vI i)),(14,(Ow i a))],[]⟩ {} [] ?_)
   refine bI h (fun hb1 h=> ?_) (fun hb1 h=> ?_)
   ·refine ct hb1 ?_
    refine aP (aQ (aB (aQ (aO h fun⟨a1,a2⟩ h=> ?_))))
    refine dg tT mX ⟨[(nL a),(uz b),(5,(vI i)),(25,(vB (!decide ((at' a i.toNat)=(at' b i.toNat)))))],[]⟩ [_,_] {} [] ⟨a1,a2,trivial⟩ ?_
    refine bI h (fun hb h=> ?_) (fun hb h=> ?_)
    ·refine ct hb ?_
     refine sz tT ⟨[(4,(vB false))],[]⟩ {} [] ?_
     refine aR ?_
     obtain rfl:=oi h
     exact lR dF (dM 0) dB (bn.mk (.inr rfl) (p:=[]) (l:=[(sB false)]) (by kernel_rfl) trivial (fC.refl _) trivial)
    ·refine cf hb ?_
     refine aP (rz tT ⟨[(nL a),(uz b),(WJ i)],[]⟩ {} [] ?_)
     obtain rfl:=oi h
     exact lN
   ·refine cf hb1 ?_
    refine aI (fz ⟨[],[]⟩ []) ?_
    refine aX ?_
    obtain rfl:=oi h
    exact lB
  ·clear hy
   cases y with
   |brk z=>
    unfold fZ
    refine⟨_, .refl, ?_⟩
    refine sz tT ⟨[(4,(vB true))],[]⟩ {} [] ?_
    refine aR ?_
    obtain rfl:=oi h
    exact rl [(sB true)]
   |ret v=>
    obtain rfl:=oi h
    unfold fZ
    intro e st hn ha hR
    cases e with
    |normal=>exact absurd rfl hn
    |exit id=>exact hR
    |goto l=>exact hR
    |ret=>exact hR
    |panic c=>exact hR
    |outgrown=>exact hR
def Eh  :(aj × Int)→Exit→St→Prop:=
  fun r=>bn TT [.cell 6 36, .tmp 7] (.gL [(.agg [(.own 0 false r.1.events.length),(cB r.1.cleared),(cI r.1.millis),(cI r.1.energy),(.own 1 false r.1.state.closed.length),(.own 2 false r.1.state.locked.length),(.own 3 false r.1.state.badLink.length),(.own 4 false r.1.state.on_.length),(.own 5 false r.1.state.badSource.length),(.own 6 false r.1.state.earthed.length),(.own 7 false r.1.state.badBus.length)]),(sI r.2)]) [(0,some (aG 56 2 Event.cell r.1.events)),(1,some (aG 4 1 ah r.1.state.closed)),(2,some (aG 4 1 ah r.1.state.locked)),(3,some (aG 4 1 ah r.1.state.badLink)),(4,some (aG 4 1 ah r.1.state.on_)),(5,some (aG 4 1 ah r.1.state.badSource)),(6,some (aG 4 1 ah r.1.state.earthed)),(7,some (aG 4 1 ah r.1.state.badBus)),(8,none)]
section
variable (p:ai) (r_:Int) (u1:State) (u2:Int) (u0:(aj × (List (Int × Int))))
abbrev X0:Nat × Option Ob:=(25,some ag7)
abbrev ZC:List (Nat × Option Ob):=[(23,some (k97 p)),X0]
abbrev Oq:List (Nat × TV):=[(6,(vP 25 0)),(7,(vI r_))]
abbrev ahh:List (Nat × Option Ob):=[X0]
abbrev ahk:List CV:=[(.own 26 false 0),(cB false),(cI 0),(cI 0),(.d nS),(.d nS),(.d nS),(.d nS),(.d nS),(.d nS),(.d nS)]
abbrev QI:Nat × Option Ob:=(26,some (.arr 56 2 0 (au Event.cell ([]:List Event))))
abbrev ait:List CV:=[(.own 26 false 0),(cB false),(cI 0),(cI 0),(.own 27 false 0),(.d nS),(.d nS),(.d nS),(.d nS),(.d nS),(.d nS)]
abbrev Sj:Nat × Option Ob:=(27,some (.arr 4 1 0 (au ah ([]:List Bool))))
abbrev agq:List CV:=[(.own 26 false 0),(cB false),(cI 0),(cI 0),(.own 27 false 0),(.own 28 false 0),(.d nS),(.d nS),(.d nS),(.d nS),(.d nS)]
abbrev Ur:Nat × Option Ob:=(28,some (.arr 4 1 0 (au ah ([]:List Bool))))
abbrev afY:List CV:=[(.own 26 false 0),(cB false),(cI 0),(cI 0),(.own 27 false 0),(.own 28 false 0),(.own 29 false 0),(.d nS),(.d nS),(.d nS),(.d nS)]
abbrev Xm:Nat × Option Ob:=(29,some (.arr 4 1 0 (au ah ([]:List Bool))))
abbrev agF:List CV:=[(.own 26 false 0),(cB false),(cI 0),(cI 0),(.own 27 false 0),(.own 28 false 0),(.own 29 false 0),(.own 30 false 0),(.d nS),(.d nS),(.d nS)]
abbrev aaw:Nat × Option Ob:=(30,some (.arr 4 1 0 (au ah ([]:List Bool))))
abbrev ahW:List CV:=[(.own 26 false 0),(cB false),(cI 0),(cI 0),(.own 27 false 0),(.own 28 false 0),(.own 29 false 0),(.own 30 false 0),(.own 31 false 0),(.d nS),(.d nS)]
abbrev adU:Nat × Option Ob:=(31,some (.arr 4 1 0 (au ah ([]:List Bool))))
abbrev aia:List CV:=[(.own 26 false 0),(cB false),(cI 0),(cI 0),(.own 27 false 0),(.own 28 false 0),(.own 29 false 0),(.own 30 false 0),(.own 31 false 0),(.own 32 false 0),(.d nS)]
abbrev af4:List CV:=[(.own 0 false 0),(cB false),(cI 0),(cI 0),(.own 1 false 0),(.own 2 false 0),(.own 3 false 0),(.own 4 false 0),(.own 5 false 0),(.own 6 false 0),(.own 7 false 0)]
abbrev ajR:List (Nat × Option Ob):=[(0,some (.arr 56 2 0 (au Event.cell ([]:List Event)))),(1,some (.arr 4 1 0 (au ah ([]:List Bool)))),(2,some (.arr 4 1 0 (au ah ([]:List Bool)))),(3,some (.arr 4 1 0 (au ah ([]:List Bool)))),(4,some (.arr 4 1 0 (au ah ([]:List Bool)))),(5,some (.arr 4 1 0 (au ah ([]:List Bool)))),(6,some (.arr 4 1 0 (au ah ([]:List Bool)))),(7,some (.arr 4 1 0 (au ah ([]:List Bool)))),(8,some (.cells 36 af4))]
abbrev aa2:List CV:=[(.own 0 false (([]:List Event).length)),(cB false),(cI 0),(cI 0),(.own 1 false (([]:List Bool).length)),(.own 2 false (([]:List Bool).length)),(.own 3 false (([]:List Bool).length)),(.own 4 false (([]:List Bool).length)),(.own 5 false (([]:List Bool).length)),(.own 6 false (([]:List Bool).length)),(.own 7 false (([]:List Bool).length))]
abbrev ahU:List (Nat × Option Ob):=[(0,some (aG 56 2 Event.cell ([]:List Event))),(1,some D7),(2,some D7),(3,some D7),(4,some D7),(5,some D7),(6,some D7),(7,some D7),(8,some (.cells 36 aa2))]
abbrev aha:List SV:=[(.agg aa2),(sI r_)]
abbrev Ou:List (Nat × TV):=[(6,(vP 25 0)),(7,(vI 1))]
abbrev agN:List CV:=[(.own 34 false 0),(cB false),(cI 0),(cI 0),(.d nS),(.d nS),(.d nS),(.d nS),(.d nS),(.d nS),(.d nS)]
abbrev Q7:Nat × Option Ob:=(34,some (.arr 56 2 0 (au Event.cell ([]:List Event))))
abbrev ajf:List CV:=[(.own 34 false 0),(cB false),(cI 0),(cI 0),(.own 35 false 0),(.d nS),(.d nS),(.d nS),(.d nS),(.d nS),(.d nS)]
abbrev R9:Nat × Option Ob:=(35,some (.arr 4 1 0 (au ah ([]:List Bool))))
abbrev ahF:List CV:=[(.own 34 false 0),(cB false),(cI 0),(cI 0),(.own 35 false 0),(.own 36 false 0),(.d nS),(.d nS),(.d nS),(.d nS),(.d nS)]
abbrev Uz:Nat × Option Ob:=(36,some (.arr 4 1 0 (au ah ([]:List Bool))))
abbrev agE:List CV:=[(.own 34 false 0),(cB false),(cI 0),(cI 0),(.own 35 false 0),(.own 36 false 0),(.own 37 false 0),(.d nS),(.d nS),(.d nS),(.d nS)]
abbrev XM:Nat × Option Ob:=(37,some (.arr 4 1 0 (au ah ([]:List Bool))))
abbrev aiG:List CV:=[(.own 34 false 0),(cB false),(cI 0),(cI 0),(.own 35 false 0),(.own 36 false 0),(.own 37 false 0),(.own 38 false 0),(.d nS),(.d nS),(.d nS)]
abbrev aaq:Nat × Option Ob:=(38,some (.arr 4 1 0 (au ah ([]:List Bool))))
abbrev ag6:List CV:=[(.own 34 false 0),(cB false),(cI 0),(cI 0),(.own 35 false 0),(.own 36 false 0),(.own 37 false 0),(.own 38 false 0),(.own 39 false 0),(.d nS),(.d nS)]
abbrev acu:Nat × Option Ob:=(39,some (.arr 4 1 0 (au ah ([]:List Bool))))
abbrev aij:List CV:=[(.own 34 false 0),(cB false),(cI 0),(cI 0),(.own 35 false 0),(.own 36 false 0),(.own 37 false 0),(.own 38 false 0),(.own 39 false 0),(.own 40 false 0),(.d nS)]
abbrev ai2:List SV:=[(.agg aa2),(sI 1)]
abbrev Yh:Nat × Option Ob:=(42,some (aG 4 1 ah u1.closed))
abbrev WU:Nat × Option Ob:=(43,some (aG 4 1 ah u1.locked))
abbrev XQ:Nat × Option Ob:=(44,some (aG 4 1 ah u1.badLink))
abbrev Xr:Nat × Option Ob:=(45,some (aG 4 1 ah u1.on_))
abbrev Yd:Nat × Option Ob:=(46,some (aG 4 1 ah u1.badSource))
abbrev XJ:Nat × Option Ob:=(47,some (aG 4 1 ah u1.earthed))
abbrev Xc:Nat × Option Ob:=(48,some (aG 4 1 ah u1.badBus))
abbrev acF:Ob:=(MN 3 3 false false 1 1 (aA .i64) (aA .i64) ([]:(List (Int × Int))))
abbrev Xg:Nat × Option Ob:=(50,some acF)
abbrev afI:List CV:=[(.d nS),(cB false),(cI 0),(cI 0),(.own 42 false u1.closed.length),(.own 43 false u1.locked.length),(.own 44 false u1.badLink.length),(.own 45 false u1.on_.length),(.own 46 false u1.badSource.length),(.own 47 false u1.earthed.length),(.own 48 false u1.badBus.length),(cI p.buses),(.d (k2 p)),(.d (k3 p)),(.d (k4 p)),(cI u2),(.d nS),(cI 0),(.mp 50),(cI 0)]
abbrev aiH:Nat × Option Ob:=(51,some (.cells 137 [(.own 52 false (([]:List Event).length)),(cB false),(cI 0),(cI 0),(.own 42 false u1.closed.length),(.own 43 false u1.locked.length),(.own 44 false u1.badLink.length),(.own 45 false u1.on_.length),(.own 46 false u1.badSource.length),(.own 47 false u1.earthed.length),(.own 48 false u1.badBus.length),(cI p.buses),(.d (k2 p)),(.d (k3 p)),(.d (k4 p)),(cI u2),(.d nS),(cI 0),(.mp 50),(cI 0)]))
abbrev aek:Nat × Option Ob:=(52,some (aG 56 2 Event.cell ([]:List Event)))
abbrev ajk:List CV:=[(.own 53 false u0.1.events.length),(cB u0.1.cleared),(cI u0.1.millis),(cI u0.1.energy),(.own 54 false u0.1.state.closed.length),(.own 55 false u0.1.state.locked.length),(.own 56 false u0.1.state.badLink.length),(.own 57 false u0.1.state.on_.length),(.own 58 false u0.1.state.badSource.length),(.own 59 false u0.1.state.earthed.length),(.own 60 false u0.1.state.badBus.length)]
abbrev agf:TV:=(.v (.agg (ajk u0)))
abbrev aeY:List (Nat × Option Ob):=[(51,none),(52,none),(42,none),(43,none),(44,none),(45,none),(46,none),(47,none),(48,none),(50,some (MN 3 3 false false 1 1 (aA .i64) (aA .i64) u0.2)),(53,some (aG 56 2 Event.cell u0.1.events)),(54,some (aG 4 1 ah u0.1.state.closed)),(55,some (aG 4 1 ah u0.1.state.locked)),(56,some (aG 4 1 ah u0.1.state.badLink)),(57,some (aG 4 1 ah u0.1.state.on_)),(58,some (aG 4 1 ah u0.1.state.badSource)),(59,some (aG 4 1 ah u0.1.state.earthed)),(60,some (aG 4 1 ah u0.1.state.badBus)),(61,none)]
abbrev ahj:List CV:=[(.own 0 false u0.1.events.length),(cB u0.1.cleared),(cI u0.1.millis),(cI u0.1.energy),(.own 1 false u0.1.state.closed.length),(.own 2 false u0.1.state.locked.length),(.own 3 false u0.1.state.badLink.length),(.own 4 false u0.1.state.on_.length),(.own 5 false u0.1.state.badSource.length),(.own 6 false u0.1.state.earthed.length),(.own 7 false u0.1.state.badBus.length)]
end
theorem iR (p:ai) (s_:State) (u2:Int) {r:(aj × Int)} (h:eY p s_ u2=some r):Fn Try.prog 15 (Qm p s_ u2) [] (.gL [(.agg [(.own 0 false r.1.events.length),(cB r.1.cleared),(cI r.1.millis),(cI r.1.energy),(.own 1 false r.1.state.closed.length),(.own 2 false r.1.state.locked.length),(.own 3 false r.1.state.badLink.length),(.own 4 false r.1.state.on_.length),(.own 5 false r.1.state.badSource.length),(.own 6 false r.1.state.earthed.length),(.own 7 false r.1.state.badBus.length)]),(sI r.2)]) [(0,some (aG 56 2 Event.cell r.1.events)),(1,some (aG 4 1 ah r.1.state.closed)),(2,some (aG 4 1 ah r.1.state.locked)),(3,some (aG 4 1 ah r.1.state.badLink)),(4,some (aG 4 1 ah r.1.state.on_)),(5,some (aG 4 1 ah r.1.state.badSource)),(6,some (aG 4 1 ah r.1.state.earthed)),(7,some (aG 4 1 ah r.1.state.badBus)),(8,none)]:=by
 refine fN tT Try.func15 rfl rfl fun B=> ?_
 show bJ _ _ _ _ _ _ (Eh r) _
 unfold eY at h
 refine sz tT ⟨[(2,(vI u2)),(3,(vP 23 0)),(Be s_),(6,(vP 25 0))],(ZC p)⟩ {fr:=[(0,23),(1,24),(2,25)] } [24] ?_
 refine aQ (aQ (bE h fun r_ hr_ h=> ?_))
 have q0:=gI p s_ hr_
 refine rg tT ⟨[(2,(vI u2)),(3,(vP 23 0)),(Be s_),(6,(vP 25 0)),(8,(vI r_))],(ZC p)⟩ [_] {an:=[(2,cA q0 [])] } [] ⟨q0,trivial⟩ ?_
 refine sz tT ⟨[(2,(vI u2)),(3,(vP 23 0)),(Be s_),(6,(vP 25 0)),(8,(vI r_)),(14,(vB (!decide (r_=0))))],(ZC p)⟩ {} [] ?_
 refine bI h (fun hb1 h=> ?_) (fun hb1 h=> ?_)
 ·refine ct hb1 ?_
  refine sz tT ⟨(Oq r_),ahh⟩ {} [] ?_
  refine aI (.trans (bG.d9 (E:=0) (esz:=0) (E0:=36) (cs:=Vm) (p:=25) (q:=0) (b:=26) (esz0:=0) (el0:=fun _ _=> .nilp) (ob:= .arr 56 2 0 (au Event.cell ([]:List Event))) (fun _ _ _ _ h=> .inl ⟨h,rfl⟩) (by kernel_rfl) (by kernel_rfl) (by kernel_rfl)) (.trans (fz ⟨(Oq r_),[(25,some (.cells 36 ahk)),QI]⟩ []) (.trans (bG.d9 (E:=0) (esz:=0) (E0:=36) (cs:=ahk) (p:=25) (q:=4) (b:=27) (esz0:=0) (el0:=fun _ _=> .nilp) (ob:= .arr 4 1 0 (au ah ([]:List Bool))) (fun _ _ _ _ h=> .inl ⟨h,rfl⟩) (by kernel_rfl) (by kernel_rfl) (by kernel_rfl)) (.trans (fz ⟨(Oq r_),[(25,some (.cells 36 ait)),QI,Sj]⟩ []) (.trans (bG.d9 (E:=0) (esz:=0) (E0:=36) (cs:=ait) (p:=25) (q:=5) (b:=28) (esz0:=0) (el0:=fun _ _=> .nilp) (ob:= .arr 4 1 0 (au ah ([]:List Bool))) (fun _ _ _ _ h=> .inl ⟨h,rfl⟩) (by kernel_rfl) (by kernel_rfl) (by kernel_rfl)) (.trans (fz ⟨(Oq r_),[(25,some (.cells 36 agq)),QI,Sj,Ur]⟩ []) (.trans (bG.d9 (E:=0) (esz:=0) (E0:=36) (cs:=agq) (p:=25) (q:=6) (b:=29) (esz0:=0) (el0:=fun _ _=> .nilp) (ob:= .arr 4 1 0 (au ah ([]:List Bool))) (fun _ _ _ _ h=> .inl ⟨h,rfl⟩) (by kernel_rfl) (by kernel_rfl) (by kernel_rfl)) (.trans (fz ⟨(Oq r_),[(25,some (.cells 36 afY)),QI,Sj,Ur,Xm]⟩ []) (.trans (bG.d9 (E:=0) (esz:=0) (E0:=36) (cs:=afY) (p:=25) (q:=7) (b:=30) (esz0:=0) (el0:=fun _ _=> .nilp) (ob:= .arr 4 1 0 (au ah ([]:List Bool))) (fun _ _ _ _ h=> .inl ⟨h,rfl⟩) (by kernel_rfl) (by kernel_rfl) (by kernel_rfl)) (.trans (fz ⟨(Oq r_),[(25,some (.cells 36 agF)),QI,Sj,Ur,Xm,aaw]⟩ []) (.trans (bG.d9 (E:=0) (esz:=0) (E0:=36) (cs:=agF) (p:=25) (q:=8) (b:=31) (esz0:=0) (el0:=fun _ _=> .nilp) (ob:= .arr 4 1 0 (au ah ([]:List Bool))) (fun _ _ _ _ h=> .inl ⟨h,rfl⟩) (by kernel_rfl) (by kernel_rfl) (by kernel_rfl)) (.trans (fz ⟨(Oq r_),[(25,some (.cells 36 ahW)),QI,Sj,Ur,Xm,aaw,adU]⟩ []) (.trans (bG.d9 (E:=0) (esz:=0) (E0:=36) (cs:=ahW) (p:=25) (q:=9) (b:=32) (esz0:=0) (el0:=fun _ _=> .nilp) (ob:= .arr 4 1 0 (au ah ([]:List Bool))) (fun _ _ _ _ h=> .inl ⟨h,rfl⟩) (by kernel_rfl) (by kernel_rfl) (by kernel_rfl)) (.trans (fz ⟨(Oq r_),[(25,some (.cells 36 aia)),QI,Sj,Ur,Xm,aaw,adU,(32,some (.arr 4 1 0 (au ah ([]:List Bool))))]⟩ []) (.trans (bG.d9 (E:=0) (esz:=0) (E0:=36) (cs:=aia) (p:=25) (q:=10) (b:=33) (esz0:=0) (el0:=fun _ _=> .nilp) (ob:= .arr 4 1 0 (au ah ([]:List Bool))) (fun _ _ _ _ h=> .inl ⟨h,rfl⟩) (by kernel_rfl) (by kernel_rfl) (by kernel_rfl)) (.trans (fz ⟨(Oq r_),[(25,some (.cells 36 [(.own 26 false 0),(cB false),(cI 0),(cI 0),(.own 27 false 0),(.own 28 false 0),(.own 29 false 0),(.own 30 false 0),(.own 31 false 0),(.own 32 false 0),(.own 33 false 0)])),QI,Sj,Ur,Xm,aaw,adU,(32,some (.arr 4 1 0 (au ah ([]:List Bool)))),(33,some (.arr 4 1 0 (au ah ([]:List Bool))))]⟩ []) (.trans (bG.fin (st':=⟨[(6,(vP 8 0)),(7,(vI r_))],ajR⟩) (cs:=[]) ⟨[],[(26,0),(27,1),(28,2),(29,3),(30,4),(31,5),(32,6),(33,7),(25,8)]⟩ [6,7] (by kernel_rfl) trivial) (bG.le (st':=⟨[(6,(vP 8 0)),(7,(vI r_))],ahU⟩) ⟨⟨tR,tR,trivial⟩,⟨rfl,oW,⟨rfl,oW,⟨rfl,oW,⟨rfl,oW,⟨rfl,oW,⟨rfl,oW,⟨rfl,oW,⟨rfl,oW,⟨rfl,fV ⟨cW,bL.refl _,bL.refl _,bL.refl _,cW,cW,cW,cW,cW,cW,cW,trivial⟩,trivial⟩⟩⟩⟩⟩⟩⟩⟩⟩⟩)))))))))))))))))) ?_
  refine aR ?_
  obtain rfl:=oi h
  exact rh (aha r_) (.refl _) (hN 8 ⟨rfl,trivial,trivial⟩)
 ·refine cf hb1 ?_
  refine aP (aQ (sg tT ⟨[(2,(vI u2)),(3,(vP 23 0)),(Be s_),(6,(vP 25 0)),(24,(aag p u2))],(ZC p)⟩ (eqs (decide (u2<0)) 5 []) {yb:=[(2,(decide (u2<0)))] } [] (ae trivial) ?_))
  refine bI h (fun hb h=> ?_) (fun hb h=> ?_)
  ·refine ct hb ?_
   refine sz tT ⟨Ou,ahh⟩ {} [] ?_
   refine aI (.trans (bG.d9 (E:=0) (esz:=0) (E0:=36) (cs:=Vm) (p:=25) (q:=0) (b:=34) (esz0:=0) (el0:=fun _ _=> .nilp) (ob:= .arr 56 2 0 (au Event.cell ([]:List Event))) (fun _ _ _ _ h=> .inl ⟨h,rfl⟩) (by kernel_rfl) (by kernel_rfl) (by kernel_rfl)) (.trans (fz ⟨Ou,[(25,some (.cells 36 agN)),Q7]⟩ []) (.trans (bG.d9 (E:=0) (esz:=0) (E0:=36) (cs:=agN) (p:=25) (q:=4) (b:=35) (esz0:=0) (el0:=fun _ _=> .nilp) (ob:= .arr 4 1 0 (au ah ([]:List Bool))) (fun _ _ _ _ h=> .inl ⟨h,rfl⟩) (by kernel_rfl) (by kernel_rfl) (by kernel_rfl)) (.trans (fz ⟨Ou,[(25,some (.cells 36 ajf)),Q7,R9]⟩ []) (.trans (bG.d9 (E:=0) (esz:=0) (E0:=36) (cs:=ajf) (p:=25) (q:=5) (b:=36) (esz0:=0) (el0:=fun _ _=> .nilp) (ob:= .arr 4 1 0 (au ah ([]:List Bool))) (fun _ _ _ _ h=> .inl ⟨h,rfl⟩) (by kernel_rfl) (by kernel_rfl) (by kernel_rfl)) (.trans (fz ⟨Ou,[(25,some (.cells 36 ahF)),Q7,R9,Uz]⟩ []) (.trans (bG.d9 (E:=0) (esz:=0) (E0:=36) (cs:=ahF) (p:=25) (q:=6) (b:=37) (esz0:=0) (el0:=fun _ _=> .nilp) (ob:= .arr 4 1 0 (au ah ([]:List Bool))) (fun _ _ _ _ h=> .inl ⟨h,rfl⟩) (by kernel_rfl) (by kernel_rfl) (by kernel_rfl)) (.trans (fz ⟨Ou,[(25,some (.cells 36 agE)),Q7,R9,Uz,XM]⟩ []) (.trans (bG.d9 (E:=0) (esz:=0) (E0:=36) (cs:=agE) (p:=25) (q:=7) (b:=38) (esz0:=0) (el0:=fun _ _=> .nilp) (ob:= .arr 4 1 0 (au ah ([]:List Bool))) (fun _ _ _ _ h=> .inl ⟨h,rfl⟩) (by kernel_rfl) (by kernel_rfl) (by kernel_rfl)) (.trans (fz ⟨Ou,[(25,some (.cells 36 aiG)),Q7,R9,Uz,XM,aaq]⟩ []) (.trans (bG.d9 (E:=0) (esz:=0) (E0:=36) (cs:=aiG) (p:=25) (q:=8) (b:=39) (esz0:=0) (el0:=fun _ _=> .nilp) (ob:= .arr 4 1 0 (au ah ([]:List Bool))) (fun _ _ _ _ h=> .inl ⟨h,rfl⟩) (by kernel_rfl) (by kernel_rfl) (by kernel_rfl)) (.trans (fz ⟨Ou,[(25,some (.cells 36 ag6)),Q7,R9,Uz,XM,aaq,acu]⟩ []) (.trans (bG.d9 (E:=0) (esz:=0) (E0:=36) (cs:=ag6) (p:=25) (q:=9) (b:=40) (esz0:=0) (el0:=fun _ _=> .nilp) (ob:= .arr 4 1 0 (au ah ([]:List Bool))) (fun _ _ _ _ h=> .inl ⟨h,rfl⟩) (by kernel_rfl) (by kernel_rfl) (by kernel_rfl)) (.trans (fz ⟨Ou,[(25,some (.cells 36 aij)),Q7,R9,Uz,XM,aaq,acu,(40,some (.arr 4 1 0 (au ah ([]:List Bool))))]⟩ []) (.trans (bG.d9 (E:=0) (esz:=0) (E0:=36) (cs:=aij) (p:=25) (q:=10) (b:=41) (esz0:=0) (el0:=fun _ _=> .nilp) (ob:= .arr 4 1 0 (au ah ([]:List Bool))) (fun _ _ _ _ h=> .inl ⟨h,rfl⟩) (by kernel_rfl) (by kernel_rfl) (by kernel_rfl)) (.trans (fz ⟨Ou,[(25,some (.cells 36 [(.own 34 false 0),(cB false),(cI 0),(cI 0),(.own 35 false 0),(.own 36 false 0),(.own 37 false 0),(.own 38 false 0),(.own 39 false 0),(.own 40 false 0),(.own 41 false 0)])),Q7,R9,Uz,XM,aaq,acu,(40,some (.arr 4 1 0 (au ah ([]:List Bool)))),(41,some (.arr 4 1 0 (au ah ([]:List Bool))))]⟩ []) (.trans (bG.fin (st':=⟨[(6,(vP 8 0)),(7,(vI 1))],ajR⟩) (cs:=[]) ⟨[],[(34,0),(35,1),(36,2),(37,3),(38,4),(39,5),(40,6),(41,7),(25,8)]⟩ [6,7] (by kernel_rfl) trivial) (bG.le (st':=⟨[(6,(vP 8 0)),(7,(vI 1))],ahU⟩) ⟨⟨tR,tR,trivial⟩,⟨rfl,oW,⟨rfl,oW,⟨rfl,oW,⟨rfl,oW,⟨rfl,oW,⟨rfl,oW,⟨rfl,oW,⟨rfl,oW,⟨rfl,fV ⟨cW,bL.refl _,bL.refl _,bL.refl _,cW,cW,cW,cW,cW,cW,cW,trivial⟩,trivial⟩⟩⟩⟩⟩⟩⟩⟩⟩⟩)))))))))))))))))) ?_
   refine aR ?_
   obtain rfl:=oi h
   exact rh ai2 (.refl _) (hN 8 ⟨rfl,trivial,trivial⟩)
  ·refine cf hb ?_
   refine aP (aQ (bE h fun u1 hr_1 h=> ?_))
   have q0:=rk [(0,42),(1,43),(2,44),(3,45),(4,46),(5,47),(6,48),(7,49)] (Cn s_ hr_1)
   refine di tT mX ⟨[(6,(vP 25 0)),(9,(vP 51 0))],[X0,(Yh u1),(WU u1),(XQ u1),(Xr u1),(Yd u1),(XJ u1),(Xc u1),Xg,(51,some (.cells 137 (afI p u1 u2)))]⟩ [_] {an:=[(1,cA q0 []),(5, .map 0 (DL (aA .i64) ([]:(List (Int × Int)))) (FU (aA .i64) ([]:(List (Int × Int)))) [])],fr:=[(5,50),(7,51)] } [] ⟨q0,trivial⟩ (.trans (bG.d9 (E:=0) (esz:=0) (E0:=137) (cs:=(afI p u1 u2)) (p:=51) (q:=0) (b:=52) (esz0:=0) (el0:=fun _ _=> .nilp) (ob:= .arr 56 2 0 (au Event.cell ([]:List Event))) (fun _ _ _ _ h=> .inl ⟨h,rfl⟩) (by kernel_rfl) (by kernel_rfl) (by kernel_rfl)) (.trans (fz ⟨[(6,(vP 25 0)),(9,(vP 51 0))],[X0,(Yh u1),(WU u1),(XQ u1),(Xr u1),(Yd u1),(XJ u1),(Xc u1),Xg,(51,some (.cells 137 [(.own 52 false 0),(cB false),(cI 0),(cI 0),(.own 42 false u1.closed.length),(.own 43 false u1.locked.length),(.own 44 false u1.badLink.length),(.own 45 false u1.on_.length),(.own 46 false u1.badSource.length),(.own 47 false u1.earthed.length),(.own 48 false u1.badBus.length),(cI p.buses),(.d (k2 p)),(.d (k3 p)),(.d (k4 p)),(cI u2),(.d nS),(cI 0),(.mp 50),(cI 0)])),(52,some (.arr 56 2 0 (au Event.cell ([]:List Event))))]⟩ []) (bG.le (st':=⟨[(6,(vP 25 0)),(9,(vP 51 0))],[X0,(Yh u1),(WU u1),(XQ u1),(Xr u1),(Yd u1),(XJ u1),(Xc u1),Xg,(aiH p u1 u2),aek]⟩) ⟨⟨tR,tR,trivial⟩,(hN 9 ⟨rfl,fV ⟨cW,bL.refl _,bL.refl _,bL.refl _,bL.refl _,bL.refl _,bL.refl _,bL.refl _,bL.refl _,bL.refl _,bL.refl _,bL.refl _,bL.refl _,bL.refl _,bL.refl _,bL.refl _,bL.refl _,bL.refl _,bL.refl _,bL.refl _,trivial⟩,⟨rfl,oW,trivial⟩⟩)⟩))) ?_
   refine aQ (bE h fun u0 hr_2 h=> ?_)
   refine rg tT ⟨[(6,(vP 25 0)),(7,(vI 0))],[(25,some (.cells 36 (ajk u0))),(53,some (aG 56 2 Event.cell u0.1.events)),(54,some (aG 4 1 ah u0.1.state.closed)),(55,some (aG 4 1 ah u0.1.state.locked)),(56,some (aG 4 1 ah u0.1.state.badLink)),(57,some (aG 4 1 ah u0.1.state.on_)),(58,some (aG 4 1 ah u0.1.state.badSource)),(59,some (aG 4 1 ah u0.1.state.earthed)),(60,some (aG 4 1 ah u0.1.state.badBus))]⟩ [Fn Try.prog 63 [(.one (.ptr 51 0))] [(aiH p u1 u2),aek,(Yh u1),(WU u1),(XQ u1),(Xr u1),(Yd u1),(XJ u1),(Xc u1),Xg] (agf u0) (aeY u0)] {an:=[(1, .call [51,52,42,43,44,45,46,47,48,50] (agf u0) (aeY u0))] } [] ⟨(Fn.leH (args:=[(.one (.ptr 51 0))]) (hin:=[(51,some (.cells 137 [(.own 52 false (([]:List Event).length)),(cB false),(cI 0),(cI 0),(.own 42 false u1.closed.length),(.own 43 false u1.locked.length),(.own 44 false u1.badLink.length),(.own 45 false u1.on_.length),(.own 46 false u1.badSource.length),(.own 47 false u1.earthed.length),(.own 48 false u1.badBus.length),(cI p.buses),(.d (k2 p)),(.d (k3 p)),(.d (k4 p)),(cI u2),(.d SB),(cI 0),(.mp 50),(cI 0)])),aek,(Yh u1),(WU u1),(XQ u1),(Xr u1),(Yd u1),(XJ u1),(Xc u1),Xg]) (rK [(0,51),(1,52),(2,42),(3,43),(4,44),(5,45),(6,46),(7,47),(8,48),(9,50),(10,53),(11,54),(12,55),(13,56),(14,57),(15,58),(16,59),(17,60),(18,61)] (zY (⟨(⟨([]:List Event),false,0,0,u1⟩:aj),p,u2,([]:List Int),0,([]:(List (Int × Int))),0⟩:Machine) false hr_2)) ⟨jw.refl _,trivial⟩ ⟨rfl,fV ⟨bL.refl _,bL.refl _,bL.refl _,bL.refl _,bL.refl _,bL.refl _,bL.refl _,bL.refl _,bL.refl _,bL.refl _,bL.refl _,bL.refl _,bL.refl _,bL.refl _,bL.refl _,bL.refl _,bL.d dP.TG,bL.refl _,bL.refl _,bL.refl _,trivial⟩,(.refl _)⟩),trivial⟩ ?_
   refine aI (bG.fin (st':=⟨[(6,(vP 8 0)),(7,(vI 0))],[(0,some (aG 56 2 Event.cell u0.1.events)),(1,some (aG 4 1 ah u0.1.state.closed)),(2,some (aG 4 1 ah u0.1.state.locked)),(3,some (aG 4 1 ah u0.1.state.badLink)),(4,some (aG 4 1 ah u0.1.state.on_)),(5,some (aG 4 1 ah u0.1.state.badSource)),(6,some (aG 4 1 ah u0.1.state.earthed)),(7,some (aG 4 1 ah u0.1.state.badBus)),(8,some (.cells 36 (ahj u0)))]⟩) (cs:=[]) ⟨[],[(53,0),(54,1),(55,2),(56,3),(57,4),(58,5),(59,6),(60,7),(25,8)]⟩ [6,7] (by kernel_rfl) trivial) ?_
   refine aR ?_
   obtain rfl:=oi h
   exact rh [(.agg (ahj u0)),(sI 0)] (.refl _) (hN 8 ⟨rfl,trivial,trivial⟩)
def Kk  :Bool→Exit→St→Prop:=
  fun r=>bn TT [.tmp 6] (vB r) []
section
variable (p:ai) (i:Int) (u0:Int)
abbrev UO:=(decide ((IY p i)=u0))
abbrev aio:=(bif (UO p i u0)then true else(decide ((EL p i)=u0)))
end
theorem Ij (p:ai) (i:Int) (u0:Int) {r:Bool} (h:Ak p i u0=some r):Fn Try.prog 103 [(.agg (k1 p)),(sI i),(sI u0)] [] (vB r) []:=by
 refine fN tT Try.func103 rfl rfl fun B=> ?_
 show bJ _ _ _ _ _ _ (Kk r) _
 unfold Ak at h
 refine sz tT ⟨[(1,(vI i)),(2,(vI u0)),(bO p)],[]⟩ {fr:=[(0,1)] } [1] ?_
 refine aQ (aO h fun⟨a1,a2⟩ h=> ?_)
 refine rg tT ⟨[(6,(vB (aio p i u0)))],[]⟩ (_::(eqs (UO p i u0) 4 ((gP (iD [(8,(UO p i u0))]) [(8,false)]→All [(0:Int)≤i∧i<(p.links.length:Int)])::(eqs (UO p i u0) 5 [])))) {yb:=[(8,(UO p i u0))] } [] ⟨a1,(ae ⟨(fun hg=> ⟨(a2 (aZ hg)),trivial⟩),(ae trivial)⟩)⟩ ?_
 refine aR ?_
 obtain rfl:=oi h
 exact rl [(sB (aio p i u0))]
def AY  :Bool→Exit→St→Prop:=
  fun r=>bn TT [.tmp 4] (vB r) []
theorem zZ (x:Event) (x1:Int) (u0:(List Source)) (u1:(List Link)) (u2:(List aJ)) (x2:Int) {r:Bool} (h:nJ x x1 u0 u1 u2 x2=some r):Fn Try.prog 102 [(.agg [(cI x.millis),(cI x.link)]),(sD (k10 x1 u0 u1 u2)),(sD (nN [(.int .i64 x2)] 0))] [] (vB r) []:=by
 refine fN tT Try.func102 rfl rfl fun B=> ?_
 show bJ _ _ _ _ _ _ (AY r) _
 unfold nJ at h
 refine sz tT ⟨[(k11 x1 u0 u1 u2),(2,(vD (nN [(.int .i64 x2)] 0))),(3,(vD (nN [(.int .i64 x.millis),(.int .i64 x.link)] 0)))],[]⟩ {fr:=[(0,1)] } [1] ?_
 refine aQ (bE h fun r_ hr_ h=> ?_)
 have q0:=Ij (⟨x1,u0,u1,u2⟩:ai) x.link x2 hr_
 refine rg tT ⟨[(4,(vB (!r_)))],[]⟩ [_] {an:=[(4,cA q0 [])] } [] ⟨q0,trivial⟩ ?_
 refine aR ?_
 obtain rfl:=oi h
 exact rl [(sB (!r_))]
def ko  :Int→Exit→St→Prop:=
  fun r=>bn TT [.tmp 4] (vI r) []
section
variable (s_:(List Event)) (f_:Int) (u0:(List Source)) (u1:(List Link)) (u2:(List aJ)) (u3:Int)
abbrev RN:Nat × TV:=(0,(vD (aC none 2 Event.cell s_)))
abbrev afG:=(uL [(k10 f_ u0 u1 u2),(nN [(.int .i64 u3)] 0)])
abbrev Tm:Nat × TV:=(1,(vD (.fn 102 2 (afG f_ u0 u1 u2 u3))))
abbrev VO:Nat × TV:=(7,(vI (s_.length:Int)))
end
def nQ (s_:(List Event)) (f_:Int) (u0:(List Source)) (u1:(List Link)) (u2:(List aJ)) (u3:Int):Int→St:=
  fun t8=> ⟨[(RN s_),(Tm f_ u0 u1 u2 u3),(VO s_),(8,(vI t8))],[]⟩
def oo  :Unit→St:=
  fun _=> ⟨[],[]⟩
def xU (s_:(List Event)) (f_:Int) (u0:(List Source)) (u1:(List Link)) (u2:(List aJ)) (u3:Int):(aS Int (Ex Unit Int))→Exit→St→Prop:=
  LQ 0 [] (nQ s_ f_ u0 u1 u2 u3) oo ko
section
variable (s_:(List Event)) (f_:Int) (u0:(List Source)) (u1:(List Link)) (u2:(List aJ)) (u3:Int)
abbrev ah2:List SV:=[(sD (aC none 2 Event.cell s_)),(sD (.fn 102 2 (afG f_ u0 u1 u2 u3)))]
abbrev aiJ:St:=⟨[(RN s_),(Tm f_ u0 u1 u2 u3)],[]⟩
end
theorem xK (s_:(List Event)) (f_:Int) (u0:(List Source)) (u1:(List Link)) (u2:(List aJ)) (u3:Int) {r:Int} (h:lU s_ f_ u0 u1 u2 u3=some r):Fn Try.prog 143 (ah2 s_ f_ u0 u1 u2 u3) [] (vI r) []:=by
 refine fN tT Try.func143 rfl rfl fun B=> ?_
 show bJ _ _ _ _ _ _ (ko r) _
 unfold lU at h
 refine sz tT (aiJ s_ f_ u0 u1 u2 u3) {} [] ?_
 refine aQ (sz tT ⟨[(RN s_),(Tm f_ u0 u1 u2 u3),(VO s_),(8,(vI 0))],[]⟩ {} [] ?_)
 refine bE h fun y hy h=> ?_
 refine aL [] (nQ s_ f_ u0 u1 u2 u3) oo ko hy (fun s f h=> ?_) ?_
 ·clear hy
  show bJ _ _ _ _ _ _ ((xU s_ f_ u0 u1 u2 u3) f) _
  unfold ow at h
  obtain⟨t8,rfl⟩: ∃q,q=s:=⟨_,rfl⟩
  refine sz tT ⟨[(RN s_),(Tm f_ u0 u1 u2 u3),(VO s_),(8,(vI t8)),(9,(vB (decide (t8<(s_.length:Int)))))],[]⟩ {} [] ?_
  refine aQ ?_
  refine bI h (fun hb1 h=> ?_) (fun hb1 h=> ?_)
  ·refine ct hb1 ?_
   refine aP (aQ (aB (sz tT ⟨[(RN s_),(Tm f_ u0 u1 u2 u3),(5,(vI t8)),(VO s_),(8,(vI t8))],[]⟩ {} [] ?_)))
   refine aQ (bE h fun r_ hr_ h=> ?_)
   refine aO h fun a1 h=> ?_
   have q1:=zZ (at' s_ t8.toNat) f_ u0 u1 u2 u3 hr_
   refine rg tT ⟨[(RN s_),(Tm f_ u0 u1 u2 u3),(5,(vI t8)),(VO s_),(8,(vI t8)),(16,(vB r_))],[]⟩ [_,_] {an:=[(5,cA q1 [])] } [] ⟨a1,q1,trivial⟩ ?_
   refine bI h (fun hb h=> ?_) (fun hb h=> ?_)
   ·refine ct hb ?_
    refine sz tT ⟨[(4,(vI t8))],[]⟩ {} [] ?_
    refine aR ?_
    obtain rfl:=oi h
    exact lR dF (dM 0) dB (bn.mk (.inr rfl) (p:=[]) (l:=[(sI t8)]) (by kernel_rfl) trivial (fC.refl _) trivial)
   ·refine cf hb ?_
    refine aP (rz tT ⟨[(RN s_),(Tm f_ u0 u1 u2 u3),(VO s_),(Vd t8)],[]⟩ {} [] ?_)
    obtain rfl:=oi h
    exact lN
  ·refine cf hb1 ?_
   refine aI (fz ⟨[],[]⟩ []) ?_
   refine aX ?_
   obtain rfl:=oi h
   exact lB
 ·clear hy
  cases y with
  |brk z=>
   unfold fZ
   refine⟨_, .refl, ?_⟩
   refine sz tT ⟨[(4,(vI (-1)))],[]⟩ {} [] ?_
   refine aR ?_
   obtain rfl:=oi h
   exact rl [(sI (-1))]
  |ret v=>
   obtain rfl:=oi h
   unfold fZ
   intro e st hn ha hR
   cases e with
   |normal=>exact absurd rfl hn
   |exit id=>exact hR
   |goto l=>exact hR
   |ret=>exact hR
   |panic c=>exact hR
   |outgrown=>exact hR
def uS  :Bool→Exit→St→Prop:=
  fun r=>bn TT [.tmp 4] (vB r) []
theorem uy (s_:(List Event)) (f_:Int) (u0:(List Source)) (u1:(List Link)) (u2:(List aJ)) (u3:Int) {r:Bool} (h:jS s_ f_ u0 u1 u2 u3=some r):Fn Try.prog 101 (ah2 s_ f_ u0 u1 u2 u3) [] (vB r) []:=by
 refine fN tT Try.func101 rfl rfl fun B=> ?_
 show bJ _ _ _ _ _ _ (uS r) _
 unfold jS at h
 refine sz tT (aiJ s_ f_ u0 u1 u2 u3) {} [] ?_
 refine aQ (bE h fun r_ hr_ h=> ?_)
 have q0:=xK s_ f_ u0 u1 u2 u3 hr_
 refine rg tT (k31 r_) [_] {an:=[(2,cA q0 [])] } [] ⟨q0,trivial⟩ ?_
 refine aR ?_
 obtain rfl:=oi h
 exact rl [(sB (decide (0≤r_)))]
def Dm  :(Bool × Int)→Exit→St→Prop:=
  fun r=>bn TT [.tmp 6, .tmp 7] (.gL [(sB r.1),(sI r.2)]) []
section
variable (r_:(aj × Int))
abbrev aaB:Ob:=(.cells 36 [(.d (aC none 2 Event.cell r_.1.events)),(cB r_.1.cleared),(cI r_.1.millis),(cI r_.1.energy),(.d (aC none 1 ah r_.1.state.closed)),(.d (aC none 1 ah r_.1.state.locked)),(.d (aC none 1 ah r_.1.state.badLink)),(.d (aC none 1 ah r_.1.state.on_)),(.d (aC none 1 ah r_.1.state.badSource)),(.d (aC none 1 ah r_.1.state.earthed)),(.d (aC none 1 ah r_.1.state.badBus))])
abbrev aiv:List DV:=[(aC none 2 Event.cell r_.1.events),(.bool r_.1.cleared),(.int .i64 r_.1.millis),(.int .i64 r_.1.energy),(aC none 1 ah r_.1.state.closed),(aC none 1 ah r_.1.state.locked),(aC none 1 ah r_.1.state.badLink),(aC none 1 ah r_.1.state.on_),(aC none 1 ah r_.1.state.badSource),(aC none 1 ah r_.1.state.earthed),(aC none 1 ah r_.1.state.badBus)]
abbrev ab8:TV:=(vD (nN (aiv r_) 0))
abbrev XC:Nat × TV:=(8,(ab8 r_))
end
theorem rV (p:ai) (s_:State) (u0:Int) {r:(Bool × Int)} (h:lX p s_ u0=some r):Fn Try.prog 60 (Qm p s_ u0) [] (.gL [(sB r.1),(sI r.2)]) []:=by
 refine fN tT Try.func60 rfl rfl fun B=> ?_
 show bJ _ _ _ _ _ _ (Dm r) _
 unfold lX at h
 refine sz tT ⟨[(bO p),(Be s_),(5,(vD (nN [(.int .i64 u0)] 0)))],[]⟩ {fr:=[(0,13),(1,14),(2,15)] } [13,14,15] ?_
 refine aQ (bE h fun r_ hr_ h=> ?_)
 have q0:=rk [(0,16),(1,17),(2,18),(3,19),(4,20),(5,21),(6,22),(7,23),(8,24)] (iR p s_ u0 hr_)
 refine ri tT ⟨[(bO p),(5,(vD (nN [(.int .i64 u0)] 0))),(8,(vP 25 0)),(9,(vI r_.2))],[(25,some (aaB r_))]⟩ [_,r_.1.events.length=r_.1.events.length,r_.1.state.closed.length=r_.1.state.closed.length,r_.1.state.locked.length=r_.1.state.locked.length,r_.1.state.badLink.length=r_.1.state.badLink.length,r_.1.state.on_.length=r_.1.state.on_.length,r_.1.state.badSource.length=r_.1.state.badSource.length,r_.1.state.earthed.length=r_.1.state.earthed.length,r_.1.state.badBus.length=r_.1.state.badBus.length] {an:=[(3,cA q0 [])],fr:=[(7,25)] } [16,17,18,19,20,21,22,23] ⟨q0,rfl,rfl,rfl,rfl,rfl,rfl,rfl,rfl,trivial⟩ (fz ⟨[(bO p),(5,(vD (nN [(.int .i64 u0)] 0))),(XC r_),(9,(vI r_.2))],[]⟩ [25]) ?_
 refine aQ (sz tT ⟨[(bO p),(5,(vD (nN [(.int .i64 u0)] 0))),(XC r_),(9,(vI r_.2)),(18,(vB (!decide (r_.2=0))))],[]⟩ {} [] ?_)
 refine bI h (fun hb h=> ?_) (fun hb h=> ?_)
 ·refine ct hb ?_
  refine sz tT ⟨[(6,(vB false)),(7,(vI r_.2))],[]⟩ {} [] ?_
  refine aR ?_
  obtain rfl:=oi h
  exact rl [(sB false),(sI r_.2)]
 ·refine cf hb ?_
  refine aP (aQ (bE h fun u1 hr_1 h=> ?_))
  refine rg tT ⟨[(6,(vB (bif r_.1.cleared then(!u1)else false))),(7,(vI 0))],[]⟩ (eqs r_.1.cleared 4 ((gP (iD [(2,r_.1.cleared)]) [(2,true)]→All [Fn Try.prog 101 [(sD (aC none 2 Event.cell r_.1.events)),(sD (.fn 102 2 (uL [(k8 p),(nN [(.int .i64 u0)] 0)])))] [] (vB u1) []])::(eqs r_.1.cleared 2 []))) {yb:=[(2,r_.1.cleared)],an:=[(6, .call [] (vB u1) [])] } [] (ae ⟨(fun hg=> ⟨(uy r_.1.events p.buses p.sources p.links p.racks u0 (gD hr_1 (aZ hg))),trivial⟩),(ae trivial)⟩) ?_
  refine aR ?_
  obtain rfl:=oi h
  exact rl [(sB (bif r_.1.cleared then(!u1)else false)),(sI 0)]
def Dk  :State→Exit→St→Prop:=
  fun r=>bn TT [.cell 2 29] (.v (.agg [(.own 0 false r.closed.length),(.own 1 false r.locked.length),(.own 2 false r.badLink.length),(.own 3 false r.on_.length),(.own 4 false r.badSource.length),(.own 5 false r.earthed.length),(.own 6 false r.badBus.length)])) [(0,some (aG 4 1 ah r.closed)),(1,some (aG 4 1 ah r.locked)),(2,some (aG 4 1 ah r.badLink)),(3,some (aG 4 1 ah r.on_)),(4,some (aG 4 1 ah r.badSource)),(5,some (aG 4 1 ah r.earthed)),(6,some (aG 4 1 ah r.badBus)),(7,none)]
section
variable (s_:State) (r_:(List Bool)) (u0:(List Bool)) (u1:(List Bool)) (u2:(List Bool)) (u3:(List Bool)) (u4:(List Bool)) (u5:(List Bool))
abbrev aja:Nat × Option Ob:=(10,some (acf s_))
abbrev Ot:Nat × Option Ob:=(11,some aaF)
abbrev aii:List (Nat × TV):=[(1,(vP 10 0)),(2,(vP 11 0)),(12,(vO 12 true 7)),(13,(vI (7:Int))),(14,(vI 0))]
abbrev QC:Nat × Option Ob:=(12,some (.cells 243 [(.ptr 10 0),(.ptr 10 1),(.ptr 10 2),(.ptr 10 3),(.ptr 10 4),(.ptr 10 5),(.ptr 10 6)]))
abbrev ab1:List (Nat × Option Ob):=[(aja s_),Ot,QC]
abbrev aaI:List (Nat × Option Ob):=[(10,some (.cells 29 [(.own 13 false r_.length),(.d (V9 s_)),(.d (W9 s_)),(.d (TL s_)),(.d (UF s_)),(.d (Rh s_)),(.d (RF s_))])),Ot,QC,(OC r_)]
abbrev afo:List (Nat × TV):=[(1,(vP 10 0)),(2,(vP 11 0)),(12,(vO 12 true 7)),(13,(vI (7:Int))),(14,(vI 1))]
abbrev YT:List (Nat × Option Ob):=[(10,some (.cells 29 [(.own 13 false r_.length),(.own 14 false u0.length),(.d (W9 s_)),(.d (TL s_)),(.d (UF s_)),(.d (Rh s_)),(.d (RF s_))])),Ot,QC,(OC r_),(QX u0)]
abbrev aiZ:List (Nat × TV):=[(1,(vP 10 0)),(2,(vP 11 0)),(12,(vO 12 true 7)),(13,(vI (7:Int))),(14,(vI 2))]
abbrev aaT:List (Nat × Option Ob):=[(10,some (.cells 29 [(.own 13 false r_.length),(.own 14 false u0.length),(.own 15 false u1.length),(.d (TL s_)),(.d (UF s_)),(.d (Rh s_)),(.d (RF s_))])),Ot,QC,(OC r_),(QX u0),(Rv u1)]
abbrev aeV:List (Nat × TV):=[(1,(vP 10 0)),(2,(vP 11 0)),(12,(vO 12 true 7)),(13,(vI (7:Int))),(14,(vI 3))]
abbrev Zb:List (Nat × Option Ob):=[(10,some (.cells 29 [(.own 13 false r_.length),(.own 14 false u0.length),(.own 15 false u1.length),(.own 16 false u2.length),(.d (UF s_)),(.d (Rh s_)),(.d (RF s_))])),Ot,QC,(OC r_),(QX u0),(Rv u1),(U2 u2)]
abbrev afW:List (Nat × TV):=[(1,(vP 10 0)),(2,(vP 11 0)),(12,(vO 12 true 7)),(13,(vI (7:Int))),(14,(vI 4))]
abbrev aar:List (Nat × Option Ob):=[(10,some (.cells 29 [(.own 13 false r_.length),(.own 14 false u0.length),(.own 15 false u1.length),(.own 16 false u2.length),(.own 17 false u3.length),(.d (Rh s_)),(.d (RF s_))])),Ot,QC,(OC r_),(QX u0),(Rv u1),(U2 u2),(17,some (aG 4 1 ah u3))]
abbrev aiV:List (Nat × TV):=[(1,(vP 10 0)),(2,(vP 11 0)),(12,(vO 12 true 7)),(13,(vI (7:Int))),(14,(vI 5))]
abbrev Zp:List (Nat × Option Ob):=[(10,some (.cells 29 [(.own 13 false r_.length),(.own 14 false u0.length),(.own 15 false u1.length),(.own 16 false u2.length),(.own 17 false u3.length),(.own 18 false u4.length),(.d (RF s_))])),Ot,QC,(OC r_),(QX u0),(Rv u1),(U2 u2),(17,some (aG 4 1 ah u3)),(18,some (aG 4 1 ah u4))]
abbrev ae4:List (Nat × TV):=[(1,(vP 10 0)),(2,(vP 11 0)),(12,(vO 12 true 7)),(13,(vI (7:Int))),(14,(vI 6))]
abbrev ah6:Ob:=(.cells 29 [(.own 13 false r_.length),(.own 14 false u0.length),(.own 15 false u1.length),(.own 16 false u2.length),(.own 17 false u3.length),(.own 18 false u4.length),(.own 19 false u5.length)])
abbrev adf:List (Nat × Option Ob):=[(10,some (ah6 r_ u0 u1 u2 u3 u4 u5)),Ot,QC,(OC r_),(QX u0),(Rv u1),(U2 u2),(17,some (aG 4 1 ah u3)),(18,some (aG 4 1 ah u4)),(19,some (aG 4 1 ah u5))]
end
theorem Cc (s_:State) {r:State} (h:vg s_=some r):Fn Try.prog 132 (ad8 s_) [] (.v (.agg [(.own 0 false r.closed.length),(.own 1 false r.locked.length),(.own 2 false r.badLink.length),(.own 3 false r.on_.length),(.own 4 false r.badSource.length),(.own 5 false r.earthed.length),(.own 6 false r.badBus.length)])) [(0,some (aG 4 1 ah r.closed)),(1,some (aG 4 1 ah r.locked)),(2,some (aG 4 1 ah r.badLink)),(3,some (aG 4 1 ah r.on_)),(4,some (aG 4 1 ah r.badSource)),(5,some (aG 4 1 ah r.earthed)),(6,some (aG 4 1 ah r.badBus)),(7,none)]:=by
 refine fN tT Try.func132 rfl rfl fun B=> ?_
 show bJ _ _ _ _ _ _ (Dk r) _
 unfold vg at h
 refine sz tT ⟨[(1,(vP 10 0)),(2,(vP 11 0))],[(aja s_),Ot]⟩ {fr:=[(0,10),(1,11)] } [] ?_
 refine aQ (sz tT ⟨aii,(ab1 s_)⟩ {an:=[(7, .cells)],fr:=[(7,12)] } [] ?_)
 refine aB (MW 12 (jg 11 (sz tT ⟨[(1,(vP 10 0)),(2,(vP 11 0)),(12,(vO 12 true 7)),(13,(vI (7:Int))),(14,(vI 0)),(15,(vB true))],(ab1 s_)⟩ {} [] ?_)))
 refine aQ (ck (aP (aQ (aB (aQ (aO h fun a1 h=> ?_))))))
 refine rg tT ⟨[(1,(vP 10 0)),(2,(vP 11 0)),(4,(vP 10 0)),(12,(vO 12 true 7)),(13,(vI (7:Int))),(14,(vI 0))],(ab1 s_)⟩ [_] {} [] ⟨a1,trivial⟩ ?_
 refine bE h fun r_ hr_ h=> ?_
 have q0:=rk [(0,13)] (aU s_.closed hr_)
 refine rg tT ⟨aii,(aaI s_ r_)⟩ [_] {an:=[(4,cA q0 [])] } [] ⟨q0,trivial⟩ ?_
 refine rz tT ⟨afo,(aaI s_ r_)⟩ {} [] ?_
 refine jg 10 (sz tT ⟨[(1,(vP 10 0)),(2,(vP 11 0)),(12,(vO 12 true 7)),(13,(vI (7:Int))),(14,(vI 1)),(15,(vB true))],(aaI s_ r_)⟩ {} [] ?_)
 refine aQ (ck (aP (aQ (aB (aQ (aO h fun a1 h=> ?_))))))
 refine rg tT ⟨[(1,(vP 10 0)),(2,(vP 11 0)),(4,(vP 10 1)),(12,(vO 12 true 7)),(13,(vI (7:Int))),(14,(vI 1))],(aaI s_ r_)⟩ [_] {} [] ⟨a1,trivial⟩ ?_
 refine bE h fun u0 hr_1 h=> ?_
 have q0:=rk [(0,14)] (aU s_.locked hr_1)
 refine rg tT ⟨afo,(YT s_ r_ u0)⟩ [_] {an:=[(4,cA q0 [])] } [] ⟨q0,trivial⟩ ?_
 refine rz tT ⟨aiZ,(YT s_ r_ u0)⟩ {} [] ?_
 refine jg 9 (sz tT ⟨[(1,(vP 10 0)),(2,(vP 11 0)),(12,(vO 12 true 7)),(13,(vI (7:Int))),(14,(vI 2)),(15,(vB true))],(YT s_ r_ u0)⟩ {} [] ?_)
 refine aQ (ck (aP (aQ (aB (aQ (aO h fun a1 h=> ?_))))))
 refine rg tT ⟨[(1,(vP 10 0)),(2,(vP 11 0)),(4,(vP 10 2)),(12,(vO 12 true 7)),(13,(vI (7:Int))),(14,(vI 2))],(YT s_ r_ u0)⟩ [_] {} [] ⟨a1,trivial⟩ ?_
 refine bE h fun u1 hr_2 h=> ?_
 have q0:=rk [(0,15)] (aU s_.badLink hr_2)
 refine rg tT ⟨aiZ,(aaT s_ r_ u0 u1)⟩ [_] {an:=[(4,cA q0 [])] } [] ⟨q0,trivial⟩ ?_
 refine rz tT ⟨aeV,(aaT s_ r_ u0 u1)⟩ {} [] ?_
 refine jg 8 (sz tT ⟨[(1,(vP 10 0)),(2,(vP 11 0)),(12,(vO 12 true 7)),(13,(vI (7:Int))),(14,(vI 3)),(15,(vB true))],(aaT s_ r_ u0 u1)⟩ {} [] ?_)
 refine aQ (ck (aP (aQ (aB (aQ (aO h fun a1 h=> ?_))))))
 refine rg tT ⟨[(1,(vP 10 0)),(2,(vP 11 0)),(4,(vP 10 3)),(12,(vO 12 true 7)),(13,(vI (7:Int))),(14,(vI 3))],(aaT s_ r_ u0 u1)⟩ [_] {} [] ⟨a1,trivial⟩ ?_
 refine bE h fun u2 hr_3 h=> ?_
 have q0:=rk [(0,16)] (aU s_.on_ hr_3)
 refine rg tT ⟨aeV,(Zb s_ r_ u0 u1 u2)⟩ [_] {an:=[(4,cA q0 [])] } [] ⟨q0,trivial⟩ ?_
 refine rz tT ⟨afW,(Zb s_ r_ u0 u1 u2)⟩ {} [] ?_
 refine jg 7 (sz tT ⟨[(1,(vP 10 0)),(2,(vP 11 0)),(12,(vO 12 true 7)),(13,(vI (7:Int))),(14,(vI 4)),(15,(vB true))],(Zb s_ r_ u0 u1 u2)⟩ {} [] ?_)
 refine aQ (ck (aP (aQ (aB (aQ (aO h fun a1 h=> ?_))))))
 refine rg tT ⟨[(1,(vP 10 0)),(2,(vP 11 0)),(4,(vP 10 4)),(12,(vO 12 true 7)),(13,(vI (7:Int))),(14,(vI 4))],(Zb s_ r_ u0 u1 u2)⟩ [_] {} [] ⟨a1,trivial⟩ ?_
 refine bE h fun u3 hr_4 h=> ?_
 have q0:=rk [(0,17)] (aU s_.badSource hr_4)
 refine rg tT ⟨afW,(aar s_ r_ u0 u1 u2 u3)⟩ [_] {an:=[(4,cA q0 [])] } [] ⟨q0,trivial⟩ ?_
 refine rz tT ⟨aiV,(aar s_ r_ u0 u1 u2 u3)⟩ {} [] ?_
 refine jg 6 (sz tT ⟨[(1,(vP 10 0)),(2,(vP 11 0)),(12,(vO 12 true 7)),(13,(vI (7:Int))),(14,(vI 5)),(15,(vB true))],(aar s_ r_ u0 u1 u2 u3)⟩ {} [] ?_)
 refine aQ (ck (aP (aQ (aB (aQ (aO h fun a1 h=> ?_))))))
 refine rg tT ⟨[(1,(vP 10 0)),(2,(vP 11 0)),(4,(vP 10 5)),(12,(vO 12 true 7)),(13,(vI (7:Int))),(14,(vI 5))],(aar s_ r_ u0 u1 u2 u3)⟩ [_] {} [] ⟨a1,trivial⟩ ?_
 refine bE h fun u4 hr_5 h=> ?_
 have q0:=rk [(0,18)] (aU s_.earthed hr_5)
 refine rg tT ⟨aiV,(Zp s_ r_ u0 u1 u2 u3 u4)⟩ [_] {an:=[(4,cA q0 [])] } [] ⟨q0,trivial⟩ ?_
 refine rz tT ⟨ae4,(Zp s_ r_ u0 u1 u2 u3 u4)⟩ {} [] ?_
 refine jg 5 (sz tT ⟨[(1,(vP 10 0)),(2,(vP 11 0)),(12,(vO 12 true 7)),(13,(vI (7:Int))),(14,(vI 6)),(15,(vB true))],(Zp s_ r_ u0 u1 u2 u3 u4)⟩ {} [] ?_)
 refine aQ (ck (aP (aQ (aB (aQ (aO h fun a1 h=> ?_))))))
 refine rg tT ⟨[(1,(vP 10 0)),(2,(vP 11 0)),(4,(vP 10 6)),(12,(vO 12 true 7)),(13,(vI (7:Int))),(14,(vI 6))],(Zp s_ r_ u0 u1 u2 u3 u4)⟩ [_] {} [] ⟨a1,trivial⟩ ?_
 refine bE h fun u5 hr_6 h=> ?_
 have q0:=rk [(0,19)] (aU s_.badBus hr_6)
 refine rg tT ⟨ae4,(adf r_ u0 u1 u2 u3 u4 u5)⟩ [_] {an:=[(4,cA q0 [])] } [] ⟨q0,trivial⟩ ?_
 refine rz tT ⟨[(1,(vP 10 0)),(2,(vP 11 0)),(12,(vO 12 true 7)),(13,(vI (7:Int))),(14,(vI 7))],(adf r_ u0 u1 u2 u3 u4 u5)⟩ {} [] ?_
 refine jg 4 (sz tT ⟨[(1,(vP 10 0)),(2,(vP 11 0)),(12,(vO 12 true 7)),(13,(vI (7:Int))),(14,(vI 7)),(15,(vB false))],(adf r_ u0 u1 u2 u3 u4 u5)⟩ {} [] ?_)
 refine aQ (cn (aX (sz tT ⟨[(2,(vP 11 0))],[(11,some (ah6 r_ u0 u1 u2 u3 u4 u5)),(OC r_),(QX u0),(Rv u1),(U2 u2),(17,some (aG 4 1 ah u3)),(18,some (aG 4 1 ah u4)),(19,some (aG 4 1 ah u5))]⟩ {} [] ?_)))
 refine aI (bG.fin (st':=(aej r_ u1 u2 u3 u4 u0 u5)) (cs:=[]) ⟨[],[(13,0),(14,1),(15,2),(16,3),(17,4),(18,5),(19,6),(11,7)]⟩ [2] (by kernel_rfl) trivial) ?_
 refine aR ?_
 obtain rfl:=oi h
 exact rh (ac4 r_ u1 u2 u3 u4 u0 u5) (.refl _) (hN 7 ⟨rfl,trivial,trivial⟩)
def Gd  :(State × Int)→Exit→St→Prop:=
  fun r=>bn TT [.cell 8 29, .tmp 9] (.gL [(.agg [(.d (aC none 1 ah r.1.closed)),(.d (aC none 1 ah r.1.locked)),(.d (aC none 1 ah r.1.badLink)),(.d (aC none 1 ah r.1.on_)),(.d (aC none 1 ah r.1.badSource)),(.d (aC none 1 ah r.1.earthed)),(.d (aC none 1 ah r.1.badBus))]),(sI r.2)]) []
section
variable (p:ai) (s_:State) (x:Part) (u0:State) (is:Bool)
abbrev Ib:Nat × TV:=(4,(k7 p))
abbrev JK:Nat × Option Ob:=(22,some aaF)
abbrev adi:List (Nat × Option Ob):=[(20,some (acf s_)),(21,some (.cells 117 [(cI x.kind),(cI x.index)])),JK]
abbrev Db:DV:=(aC none 1 ah ([]:List Bool))
abbrev afe:Nat × TV:=(8,(vD (nN [Db,Db,Db,Db,Db,Db,Db] 0)))
abbrev aiM:List CV:=[(.d Db),(.d Db),(.d Db),(.d Db),(.d Db),(.d Db),(.d Db)]
abbrev Zf:Nat × Option Ob:=(20,some (.cells 29 [(.own 23 false u0.closed.length),(.own 24 false u0.locked.length),(.own 25 false u0.badLink.length),(.own 26 false u0.on_.length),(.own 27 false u0.badSource.length),(.own 28 false u0.earthed.length),(.own 29 false u0.badBus.length)]))
abbrev SC:Nat × Option Ob:=(23,some (aG 4 1 ah u0.closed))
abbrev RB:Nat × Option Ob:=(24,some (aG 4 1 ah u0.locked))
abbrev XI:Nat × Option Ob:=(25,some (aG 4 1 ah u0.badLink))
abbrev SY:Nat × Option Ob:=(26,some (aG 4 1 ah u0.on_))
abbrev Xq:Nat × Option Ob:=(27,some (aG 4 1 ah u0.badSource))
abbrev Sy:Nat × Option Ob:=(28,some (aG 4 1 ah u0.earthed))
abbrev WL:Nat × Option Ob:=(29,some (aG 4 1 ah u0.badBus))
abbrev Nn:List (Nat × Option Ob):=[(Zf u0),(21,some (.cells 117 [(cI x.kind),(cI x.index)])),JK,(SC u0),(RB u0),(XI u0),(SY u0),(Xq u0),(Sy u0),(WL u0)]
abbrev SG:List CV:=[(.own 29 false u0.badBus.length)]
abbrev I5:=(X6 1 (SG u0))
abbrev UK:List CV:=[(.own 27 false u0.badSource.length)]
abbrev I6:List DV:=[(.int .i64 1),(.int .i64 2)]
abbrev Io:=(X6 1 [(.own 29 false u0.badBus.length),(.own 27 false u0.badSource.length)])
abbrev Vh:List CV:=[(.own 25 false u0.badLink.length)]
abbrev IX:List DV:=[(.int .i64 1),(.int .i64 2),(.int .i64 3)]
abbrev I4:=(X6 1 [(.own 29 false u0.badBus.length),(.own 27 false u0.badSource.length),(.own 25 false u0.badLink.length)])
abbrev YZ:St:=⟨[(8,(vD (nN [nS,nS,nS,nS,nS,nS,nS] 0))),(9,(vI 14))],[]⟩
abbrev aav:St:=⟨[afe,(9,(vI 14))],[]⟩
abbrev ZV:List SV:=[(.agg aiM),(sI 14)]
abbrev Vp:List (Nat × TV):=[(5,(vP 20 0)),(8,(vP 22 0))]
abbrev afS:List CV:=[(.d (k79 u0)),(.d (V9 u0)),(.d (W9 u0)),(.d (TL u0)),(.d (UF u0)),(.d (Rh u0)),(.d (aC none 1 ah (u0.badBus.set x.index.toNat is)))]
abbrev Np:=(u0.badSource.set x.index.toNat is)
abbrev aft:List CV:=[(.d (k79 u0)),(.d (V9 u0)),(.d (W9 u0)),(.d (TL u0)),(.d (aC none 1 ah (Np x u0 is))),(.d (Rh u0)),(.d (RF u0))]
abbrev NS:=(u0.badLink.set x.index.toNat is)
abbrev aeX:List CV:=[(.d (k79 u0)),(.d (V9 u0)),(.d (aC none 1 ah (NS x u0 is))),(.d (TL u0)),(.d (UF u0)),(.d (Rh u0)),(.d (RF u0))]
end
theorem Fe (p:ai) (s_:State) (x:Part) (is:Bool) {r:(State × Int)} (h:uR p s_ x is=some r):Fn Try.prog 93 [(.agg (k1 p)),(.agg (Li s_)),(.agg [(cI x.kind),(cI x.index)]),(sB is)] [] (.gL [(.agg [(.d (aC none 1 ah r.1.closed)),(.d (aC none 1 ah r.1.locked)),(.d (aC none 1 ah r.1.badLink)),(.d (aC none 1 ah r.1.on_)),(.d (aC none 1 ah r.1.badSource)),(.d (aC none 1 ah r.1.earthed)),(.d (aC none 1 ah r.1.badBus))]),(sI r.2)]) []:=by
 refine fN tT Try.func93 rfl rfl fun B=> ?_
 show bJ _ _ _ _ _ _ (Gd r) _
 unfold uR at h
 refine sz tT ⟨[(3,(vB is)),(Ib p),(5,(vP 20 0)),(6,(vP 21 0)),(8,(vP 22 0))],(adi s_ x)⟩ {fr:=[(0,19),(1,20),(2,21),(3,22)] } [19] ?_
 refine aQ (aQ (bE h fun r_ hr_ h=> ?_))
 have q0:=gI p s_ hr_
 refine rg tT ⟨[(3,(vB is)),(5,(vP 20 0)),(6,(vP 21 0)),(8,(vP 22 0)),(10,(vI r_))],(adi s_ x)⟩ [_] {an:=[(2,cA q0 [])] } [] ⟨q0,trivial⟩ ?_
 refine sz tT ⟨[(3,(vB is)),(5,(vP 20 0)),(6,(vP 21 0)),(8,(vP 22 0)),(10,(vI r_)),(16,(vB (!decide (r_=0))))],(adi s_ x)⟩ {} [] ?_
 refine bI h (fun hb7 h=> ?_) (fun hb7 h=> ?_)
 ·refine ct hb7 ?_
  refine sz tT ⟨[(8,(vD (nN [nS,nS,nS,nS,nS,nS,nS] 0))),(9,(vI r_))],[]⟩ {} [22] ?_
  refine aI (bG.le (st':=⟨[afe,(9,(vI r_))],[]⟩) ⟨⟨⟨_,rfl,fC.v (jw.one (bL.d (Kj ⟨dP.nil',dP.nil',dP.nil',dP.nil',dP.nil',dP.nil',dP.nil',trivial⟩)))⟩,tR,trivial⟩,trivial⟩) ?_
  refine aR ?_
  obtain rfl:=oi h
  exact rl [(.agg aiM),(sI r_)]
 ·refine cf hb7 ?_
  refine aP (aQ (bE h fun u0 hr_1 h=> ?_))
  have q0:=rk [(0,23),(1,24),(2,25),(3,26),(4,27),(5,28),(6,29),(7,30)] (Cc s_ hr_1)
  refine rg tT ⟨[(3,(vB is)),(5,(vP 20 0)),(6,(vP 21 0)),(8,(vP 22 0))],(Nn x u0)⟩ [_] {an:=[(1,cA q0 [])] } [] ⟨q0,trivial⟩ ?_
  refine aQ ?_
  refine bI h (fun hb h=> ?_) (fun hb h=> ?_)
  ·skip
   refine rg tT ⟨[(3,(vB is)),(5,(vP 20 0)),(6,(vP 21 0)),(8,(vP 22 0)),(11,(vO 29 false u0.badBus.length))],(Nn x u0)⟩ [sG [some .i64] 1 1 0 (wO []) (X6 1 []) [(.int .i64 1)] (SG u0) [29] 1 (wO [(.int .i64 1)]) (I5 u0),sG [some .i64] 1 1 1 (wO [(.int .i64 1)]) (I5 u0) [(.int .i64 2)] (UK u0) [29,27] 2 (wO I6) (Io u0),sG [some .i64] 1 1 2 (wO I6) (Io u0) [(.int .i64 3)] (Vh u0) [29,27,25] 3 (wO IX) (I4 u0),qZ [some .i64] 1 1 3 (wO IX) (I4 u0) [(.int .i64 x.kind)] [(.d nS)] true (SG u0)] {an:=[(0, .map 0 (wO []) (X6 1 []) []),(3, .map 1 (wO [(.int .i64 1)]) (I5 u0) [29]),(6, .map 2 (wO I6) (Io u0) [29,27]),(9, .map 3 (wO IX) (I4 u0) [29,27,25]),(13, .look true (SG u0))],fr:=[(0,32)] } [] ⟨(⟨(fun i hi=>absurd hi (Nat.not_lt_zero i)),(by intro i hi j hj;match i,j,hi,hj with|0,0,_,_=>exact bT.1 (show gJ (CV.bW (.own 29 false u0.badBus.length)) [29]=true from by kernel_rfl)),0,(fun i hi=>absurd hi (Nat.not_lt_zero i)), .inr ⟨rfl,rfl⟩,rfl,rfl,(fun i hi=>absurd hi (Nat.not_lt_zero i))⟩),(⟨(by intro i hi;match i,hi with|0,_=>rfl),(by intro i hi j hj;match i,j,hi,hj with|0,0,_,_=>exact bT.1 (show gJ (CV.bW (.own 29 false u0.badBus.length)) [29,27]=true from by kernel_rfl)|1,0,_,_=>exact bT.1 (show gJ (CV.bW (.own 27 false u0.badSource.length)) [29,27]=true from by kernel_rfl)),1,(by intro i hi;match i,hi with|0,_=>rfl), .inr ⟨rfl,rfl⟩,rfl,rfl,(by intro i hi;match i,hi with|0,_=>exact fun _=> ⟨rfl,rfl⟩)⟩),(⟨(by intro i hi;match i,hi with|0,_=>rfl|1,_=>rfl),(by intro i hi j hj;match i,j,hi,hj with|0,0,_,_=>exact bT.1 (show gJ (CV.bW (.own 29 false u0.badBus.length)) [29,27,25]=true from by kernel_rfl)|1,0,_,_=>exact bT.1 (show gJ (CV.bW (.own 27 false u0.badSource.length)) [29,27,25]=true from by kernel_rfl)|2,0,_,_=>exact bT.1 (show gJ (CV.bW (.own 25 false u0.badLink.length)) [29,27,25]=true from by kernel_rfl)),2,(by intro i hi;match i,hi with|0,_=>rfl|1,_=>rfl), .inr ⟨rfl,rfl⟩,rfl,rfl,(by intro i hi;match i,hi with|0,_=>exact fun _=> ⟨rfl,rfl⟩|1,_=>exact fun _=> ⟨rfl,rfl⟩)⟩),(⟨(by intro i hi;match i,hi with|0,_=>rfl|1,_=>rfl|2,_=>rfl), .inl ⟨rfl,0,by decide,congrArg some hb,(fun i hi=>absurd hi (Nat.not_lt_zero i)),rfl⟩⟩),trivial⟩ ?_
   refine aQ (aQ (bE h fun u1 hr_2 h=> ?_))
   have q0:=aT x.index 0 (IntKind.wrap .i64 ((u0.badBus.length:Int) - 1)) hr_2
   refine rg tT ⟨[(3,(vB is)),(5,(vP 20 0)),(6,(vP 21 0)),(8,(vP 22 0)),(11,(vO 29 false u0.badBus.length)),(38,(vB (!u1)))],(Nn x u0)⟩ [_] {an:=[(5,cA q0 [])] } [] ⟨q0,trivial⟩ ?_
   refine bI h (fun hb1 h=> ?_) (fun hb1 h=> ?_)
   ·refine ct hb1 ?_
    refine sz tT YZ {} [22] ?_
    refine aI (bG.le (st':=aav) ⟨⟨⟨_,rfl,fC.v (jw.one (bL.d (Kj ⟨dP.nil',dP.nil',dP.nil',dP.nil',dP.nil',dP.nil',dP.nil',trivial⟩)))⟩,tR,trivial⟩,trivial⟩) ?_
    refine aR ?_
    obtain rfl:=oi h
    exact rl ZV
   ·refine cf hb1 ?_
    refine aP (aQ (aO h fun a1 h=> ?_))
    refine ri tT ⟨Vp,[(Zf u0),JK,(SC u0),(RB u0),(XI u0),(SY u0),(Xq u0),(Sy u0),(29,some (.arr 4 1 u0.badBus.length (au ah (u0.badBus.set x.index.toNat is))))]⟩ [_,_,aY u0.badBus.length 1 (nP (au ah u0.badBus) x.index.toNat 0 [(.bool is)]) (au ah (u0.badBus.set x.index.toNat is))] {an:=[(5, .arr 0 (au ah (u0.badBus.set x.index.toNat is)))] } [] ⟨a1,(tL a1),(fU _ _ _ _ _ _ _ _ rfl (fun j hj=>(match j,hj with|0,_=>rfl))),trivial⟩ (bG.le (st':=⟨Vp,[(20,some (.cells 29 [(.own 23 false u0.closed.length),(.own 24 false u0.locked.length),(.own 25 false u0.badLink.length),(.own 26 false u0.on_.length),(.own 27 false u0.badSource.length),(.own 28 false u0.earthed.length),(.own 29 false ((u0.badBus.set x.index.toNat is).length))])),JK,(SC u0),(RB u0),(XI u0),(SY u0),(Xq u0),(Sy u0),(29,some (aG 4 1 ah (u0.badBus.set x.index.toNat is)))]⟩) ⟨⟨tR,tR,trivial⟩,⟨rfl,fV ⟨bL.refl _,bL.refl _,bL.refl _,bL.refl _,bL.refl _,bL.refl _,cW,trivial⟩,(hN 7 ⟨rfl,oW,trivial⟩)⟩⟩) ?_
    refine si tT ⟨[(8,(vP 22 0)),(9,(vI 0))],[(22,some (.cells 29 (afS x u0 is)))]⟩ [u0.closed.length=u0.closed.length,u0.locked.length=u0.locked.length,u0.badLink.length=u0.badLink.length,u0.on_.length=u0.on_.length,u0.badSource.length=u0.badSource.length,u0.earthed.length=u0.earthed.length,(u0.badBus.set x.index.toNat is).length=(u0.badBus.set x.index.toNat is).length] {} [23,24,25,26,27,28,29] ⟨rfl,rfl,rfl,rfl,rfl,rfl,rfl,trivial⟩ (fz ⟨[(8,(vD (nN [(k79 u0),(V9 u0),(W9 u0),(TL u0),(UF u0),(Rh u0),(aC none 1 ah (u0.badBus.set x.index.toNat is))] 0))),(9,(vI 0))],[]⟩ [22]) ?_
    refine aR ?_
    obtain rfl:=oi h
    exact rl [(.agg (afS x u0 is)),(sI 0)]
  ·skip
   refine bI h (fun hb2 h=> ?_) (fun hb2 h=> ?_)
   ·skip
    refine rg tT ⟨[(3,(vB is)),(5,(vP 20 0)),(6,(vP 21 0)),(8,(vP 22 0)),(11,(vO 27 false u0.badSource.length))],(Nn x u0)⟩ [sG [some .i64] 1 1 0 (wO []) (X6 1 []) [(.int .i64 1)] (SG u0) [29] 1 (wO [(.int .i64 1)]) (I5 u0),sG [some .i64] 1 1 1 (wO [(.int .i64 1)]) (I5 u0) [(.int .i64 2)] (UK u0) [29,27] 2 (wO I6) (Io u0),sG [some .i64] 1 1 2 (wO I6) (Io u0) [(.int .i64 3)] (Vh u0) [29,27,25] 3 (wO IX) (I4 u0),qZ [some .i64] 1 1 3 (wO IX) (I4 u0) [(.int .i64 x.kind)] [(.d nS)] true (UK u0)] {an:=[(0, .map 0 (wO []) (X6 1 []) []),(3, .map 1 (wO [(.int .i64 1)]) (I5 u0) [29]),(6, .map 2 (wO I6) (Io u0) [29,27]),(9, .map 3 (wO IX) (I4 u0) [29,27,25]),(13, .look true (UK u0))],fr:=[(0,34)] } [] ⟨(⟨(fun i hi=>absurd hi (Nat.not_lt_zero i)),(by intro i hi j hj;match i,j,hi,hj with|0,0,_,_=>exact bT.1 (show gJ (CV.bW (.own 29 false u0.badBus.length)) [29]=true from by kernel_rfl)),0,(fun i hi=>absurd hi (Nat.not_lt_zero i)), .inr ⟨rfl,rfl⟩,rfl,rfl,(fun i hi=>absurd hi (Nat.not_lt_zero i))⟩),(⟨(by intro i hi;match i,hi with|0,_=>rfl),(by intro i hi j hj;match i,j,hi,hj with|0,0,_,_=>exact bT.1 (show gJ (CV.bW (.own 29 false u0.badBus.length)) [29,27]=true from by kernel_rfl)|1,0,_,_=>exact bT.1 (show gJ (CV.bW (.own 27 false u0.badSource.length)) [29,27]=true from by kernel_rfl)),1,(by intro i hi;match i,hi with|0,_=>rfl), .inr ⟨rfl,rfl⟩,rfl,rfl,(by intro i hi;match i,hi with|0,_=>exact fun _=> ⟨rfl,rfl⟩)⟩),(⟨(by intro i hi;match i,hi with|0,_=>rfl|1,_=>rfl),(by intro i hi j hj;match i,j,hi,hj with|0,0,_,_=>exact bT.1 (show gJ (CV.bW (.own 29 false u0.badBus.length)) [29,27,25]=true from by kernel_rfl)|1,0,_,_=>exact bT.1 (show gJ (CV.bW (.own 27 false u0.badSource.length)) [29,27,25]=true from by kernel_rfl)|2,0,_,_=>exact bT.1 (show gJ (CV.bW (.own 25 false u0.badLink.length)) [29,27,25]=true from by kernel_rfl)),2,(by intro i hi;match i,hi with|0,_=>rfl|1,_=>rfl), .inr ⟨rfl,rfl⟩,rfl,rfl,(by intro i hi;match i,hi with|0,_=>exact fun _=> ⟨rfl,rfl⟩|1,_=>exact fun _=> ⟨rfl,rfl⟩)⟩),(⟨(by intro i hi;match i,hi with|0,_=>rfl|1,_=>rfl|2,_=>rfl), .inl ⟨rfl,1,by decide,congrArg some hb2,(by intro i hi;match i,hi with|0,_=>exact congrArg some hb),rfl⟩⟩),trivial⟩ ?_
    refine aQ (aQ (bE h fun u2 hr_3 h=> ?_))
    have q0:=aT x.index 0 (IntKind.wrap .i64 ((u0.badSource.length:Int) - 1)) hr_3
    refine rg tT ⟨[(3,(vB is)),(5,(vP 20 0)),(6,(vP 21 0)),(8,(vP 22 0)),(11,(vO 27 false u0.badSource.length)),(38,(vB (!u2)))],(Nn x u0)⟩ [_] {an:=[(5,cA q0 [])] } [] ⟨q0,trivial⟩ ?_
    refine bI h (fun hb3 h=> ?_) (fun hb3 h=> ?_)
    ·refine ct hb3 ?_
     refine sz tT YZ {} [22] ?_
     refine aI (bG.le (st':=aav) ⟨⟨⟨_,rfl,fC.v (jw.one (bL.d (Kj ⟨dP.nil',dP.nil',dP.nil',dP.nil',dP.nil',dP.nil',dP.nil',trivial⟩)))⟩,tR,trivial⟩,trivial⟩) ?_
     refine aR ?_
     obtain rfl:=oi h
     exact rl ZV
    ·refine cf hb3 ?_
     refine aP (aQ (aO h fun a1 h=> ?_))
     refine ri tT ⟨Vp,[(Zf u0),JK,(SC u0),(RB u0),(XI u0),(SY u0),(27,some (.arr 4 1 u0.badSource.length (au ah (Np x u0 is)))),(Sy u0),(WL u0)]⟩ [_,_,aY u0.badSource.length 1 (nP (au ah u0.badSource) x.index.toNat 0 [(.bool is)]) (au ah (Np x u0 is))] {an:=[(5, .arr 0 (au ah (Np x u0 is)))] } [] ⟨a1,(tL a1),(fU _ _ _ _ _ _ _ _ rfl (fun j hj=>(match j,hj with|0,_=>rfl))),trivial⟩ (bG.le (st':=⟨Vp,[(20,some (.cells 29 [(.own 23 false u0.closed.length),(.own 24 false u0.locked.length),(.own 25 false u0.badLink.length),(.own 26 false u0.on_.length),(.own 27 false ((Np x u0 is).length)),(.own 28 false u0.earthed.length),(.own 29 false u0.badBus.length)])),JK,(SC u0),(RB u0),(XI u0),(SY u0),(27,some (aG 4 1 ah (Np x u0 is))),(Sy u0),(WL u0)]⟩) ⟨⟨tR,tR,trivial⟩,⟨rfl,fV ⟨bL.refl _,bL.refl _,bL.refl _,bL.refl _,cW,bL.refl _,bL.refl _,trivial⟩,(hN 5 ⟨rfl,oW,(.refl _)⟩)⟩⟩) ?_
     refine si tT ⟨[(8,(vP 22 0)),(9,(vI 0))],[(22,some (.cells 29 (aft x u0 is)))]⟩ [u0.closed.length=u0.closed.length,u0.locked.length=u0.locked.length,u0.badLink.length=u0.badLink.length,u0.on_.length=u0.on_.length,(Np x u0 is).length=(Np x u0 is).length,u0.earthed.length=u0.earthed.length,u0.badBus.length=u0.badBus.length] {} [23,24,25,26,27,28,29] ⟨rfl,rfl,rfl,rfl,rfl,rfl,rfl,trivial⟩ (fz ⟨[(8,(vD (nN [(k79 u0),(V9 u0),(W9 u0),(TL u0),(aC none 1 ah (Np x u0 is)),(Rh u0),(RF u0)] 0))),(9,(vI 0))],[]⟩ [22]) ?_
     refine aR ?_
     obtain rfl:=oi h
     exact rl [(.agg (aft x u0 is)),(sI 0)]
   ·skip
    refine bI h (fun hb4 h=> ?_) (fun hb4 h=> ?_)
    ·skip
     refine rg tT ⟨[(3,(vB is)),(5,(vP 20 0)),(6,(vP 21 0)),(8,(vP 22 0)),(11,(vO 25 false u0.badLink.length))],(Nn x u0)⟩ [sG [some .i64] 1 1 0 (wO []) (X6 1 []) [(.int .i64 1)] (SG u0) [29] 1 (wO [(.int .i64 1)]) (I5 u0),sG [some .i64] 1 1 1 (wO [(.int .i64 1)]) (I5 u0) [(.int .i64 2)] (UK u0) [29,27] 2 (wO I6) (Io u0),sG [some .i64] 1 1 2 (wO I6) (Io u0) [(.int .i64 3)] (Vh u0) [29,27,25] 3 (wO IX) (I4 u0),qZ [some .i64] 1 1 3 (wO IX) (I4 u0) [(.int .i64 x.kind)] [(.d nS)] true (Vh u0)] {an:=[(0, .map 0 (wO []) (X6 1 []) []),(3, .map 1 (wO [(.int .i64 1)]) (I5 u0) [29]),(6, .map 2 (wO I6) (Io u0) [29,27]),(9, .map 3 (wO IX) (I4 u0) [29,27,25]),(13, .look true (Vh u0))],fr:=[(0,36)] } [] ⟨(⟨(fun i hi=>absurd hi (Nat.not_lt_zero i)),(by intro i hi j hj;match i,j,hi,hj with|0,0,_,_=>exact bT.1 (show gJ (CV.bW (.own 29 false u0.badBus.length)) [29]=true from by kernel_rfl)),0,(fun i hi=>absurd hi (Nat.not_lt_zero i)), .inr ⟨rfl,rfl⟩,rfl,rfl,(fun i hi=>absurd hi (Nat.not_lt_zero i))⟩),(⟨(by intro i hi;match i,hi with|0,_=>rfl),(by intro i hi j hj;match i,j,hi,hj with|0,0,_,_=>exact bT.1 (show gJ (CV.bW (.own 29 false u0.badBus.length)) [29,27]=true from by kernel_rfl)|1,0,_,_=>exact bT.1 (show gJ (CV.bW (.own 27 false u0.badSource.length)) [29,27]=true from by kernel_rfl)),1,(by intro i hi;match i,hi with|0,_=>rfl), .inr ⟨rfl,rfl⟩,rfl,rfl,(by intro i hi;match i,hi with|0,_=>exact fun _=> ⟨rfl,rfl⟩)⟩),(⟨(by intro i hi;match i,hi with|0,_=>rfl|1,_=>rfl),(by intro i hi j hj;match i,j,hi,hj with|0,0,_,_=>exact bT.1 (show gJ (CV.bW (.own 29 false u0.badBus.length)) [29,27,25]=true from by kernel_rfl)|1,0,_,_=>exact bT.1 (show gJ (CV.bW (.own 27 false u0.badSource.length)) [29,27,25]=true from by kernel_rfl)|2,0,_,_=>exact bT.1 (show gJ (CV.bW (.own 25 false u0.badLink.length)) [29,27,25]=true from by kernel_rfl)),2,(by intro i hi;match i,hi with|0,_=>rfl|1,_=>rfl), .inr ⟨rfl,rfl⟩,rfl,rfl,(by intro i hi;match i,hi with|0,_=>exact fun _=> ⟨rfl,rfl⟩|1,_=>exact fun _=> ⟨rfl,rfl⟩)⟩),(⟨(by intro i hi;match i,hi with|0,_=>rfl|1,_=>rfl|2,_=>rfl), .inl ⟨rfl,2,by decide,congrArg some hb4,(by intro i hi;match i,hi with|0,_=>exact congrArg some hb|1,_=>exact congrArg some hb2),rfl⟩⟩),trivial⟩ ?_
     refine aQ (aQ (bE h fun u3 hr_4 h=> ?_))
     have q0:=aT x.index 0 (IntKind.wrap .i64 ((u0.badLink.length:Int) - 1)) hr_4
     refine rg tT ⟨[(3,(vB is)),(5,(vP 20 0)),(6,(vP 21 0)),(8,(vP 22 0)),(11,(vO 25 false u0.badLink.length)),(38,(vB (!u3)))],(Nn x u0)⟩ [_] {an:=[(5,cA q0 [])] } [] ⟨q0,trivial⟩ ?_
     refine bI h (fun hb5 h=> ?_) (fun hb5 h=> ?_)
     ·refine ct hb5 ?_
      refine sz tT YZ {} [22] ?_
      refine aI (bG.le (st':=aav) ⟨⟨⟨_,rfl,fC.v (jw.one (bL.d (Kj ⟨dP.nil',dP.nil',dP.nil',dP.nil',dP.nil',dP.nil',dP.nil',trivial⟩)))⟩,tR,trivial⟩,trivial⟩) ?_
      refine aR ?_
      obtain rfl:=oi h
      exact rl ZV
     ·refine cf hb5 ?_
      refine aP (aQ (aO h fun a1 h=> ?_))
      refine ri tT ⟨Vp,[(Zf u0),JK,(SC u0),(RB u0),(25,some (.arr 4 1 u0.badLink.length (au ah (NS x u0 is)))),(SY u0),(Xq u0),(Sy u0),(WL u0)]⟩ [_,_,aY u0.badLink.length 1 (nP (au ah u0.badLink) x.index.toNat 0 [(.bool is)]) (au ah (NS x u0 is))] {an:=[(5, .arr 0 (au ah (NS x u0 is)))] } [] ⟨a1,(tL a1),(fU _ _ _ _ _ _ _ _ rfl (fun j hj=>(match j,hj with|0,_=>rfl))),trivial⟩ (bG.le (st':=⟨Vp,[(20,some (.cells 29 [(.own 23 false u0.closed.length),(.own 24 false u0.locked.length),(.own 25 false ((NS x u0 is).length)),(.own 26 false u0.on_.length),(.own 27 false u0.badSource.length),(.own 28 false u0.earthed.length),(.own 29 false u0.badBus.length)])),JK,(SC u0),(RB u0),(25,some (aG 4 1 ah (NS x u0 is))),(SY u0),(Xq u0),(Sy u0),(WL u0)]⟩) ⟨⟨tR,tR,trivial⟩,⟨rfl,fV ⟨bL.refl _,bL.refl _,cW,bL.refl _,bL.refl _,bL.refl _,bL.refl _,trivial⟩,(hN 3 ⟨rfl,oW,(.refl _)⟩)⟩⟩) ?_
      refine si tT ⟨[(8,(vP 22 0)),(9,(vI 0))],[(22,some (.cells 29 (aeX x u0 is)))]⟩ [u0.closed.length=u0.closed.length,u0.locked.length=u0.locked.length,(NS x u0 is).length=(NS x u0 is).length,u0.on_.length=u0.on_.length,u0.badSource.length=u0.badSource.length,u0.earthed.length=u0.earthed.length,u0.badBus.length=u0.badBus.length] {} [23,24,25,26,27,28,29] ⟨rfl,rfl,rfl,rfl,rfl,rfl,rfl,trivial⟩ (fz ⟨[(8,(vD (nN [(k79 u0),(V9 u0),(aC none 1 ah (NS x u0 is)),(TL u0),(UF u0),(Rh u0),(RF u0)] 0))),(9,(vI 0))],[]⟩ [22]) ?_
      refine aR ?_
      obtain rfl:=oi h
      exact rl [(.agg (aeX x u0 is)),(sI 0)]
    ·skip
     refine rg tT ⟨[(3,(vB is)),(5,(vP 20 0)),(6,(vP 21 0)),(8,(vP 22 0)),(11,(vD nS))],(Nn x u0)⟩ [sG [some .i64] 1 1 0 (wO []) (X6 1 []) [(.int .i64 1)] (SG u0) [29] 1 (wO [(.int .i64 1)]) (I5 u0),sG [some .i64] 1 1 1 (wO [(.int .i64 1)]) (I5 u0) [(.int .i64 2)] (UK u0) [29,27] 2 (wO I6) (Io u0),sG [some .i64] 1 1 2 (wO I6) (Io u0) [(.int .i64 3)] (Vh u0) [29,27,25] 3 (wO IX) (I4 u0),qZ [some .i64] 1 1 3 (wO IX) (I4 u0) [(.int .i64 x.kind)] [(.d nS)] false [(.d nS)]] {an:=[(0, .map 0 (wO []) (X6 1 []) []),(3, .map 1 (wO [(.int .i64 1)]) (I5 u0) [29]),(6, .map 2 (wO I6) (Io u0) [29,27]),(9, .map 3 (wO IX) (I4 u0) [29,27,25]),(13, .look false [(.d nS)])],fr:=[(0,37)] } [] ⟨(⟨(fun i hi=>absurd hi (Nat.not_lt_zero i)),(by intro i hi j hj;match i,j,hi,hj with|0,0,_,_=>exact bT.1 (show gJ (CV.bW (.own 29 false u0.badBus.length)) [29]=true from by kernel_rfl)),0,(fun i hi=>absurd hi (Nat.not_lt_zero i)), .inr ⟨rfl,rfl⟩,rfl,rfl,(fun i hi=>absurd hi (Nat.not_lt_zero i))⟩),(⟨(by intro i hi;match i,hi with|0,_=>rfl),(by intro i hi j hj;match i,j,hi,hj with|0,0,_,_=>exact bT.1 (show gJ (CV.bW (.own 29 false u0.badBus.length)) [29,27]=true from by kernel_rfl)|1,0,_,_=>exact bT.1 (show gJ (CV.bW (.own 27 false u0.badSource.length)) [29,27]=true from by kernel_rfl)),1,(by intro i hi;match i,hi with|0,_=>rfl), .inr ⟨rfl,rfl⟩,rfl,rfl,(by intro i hi;match i,hi with|0,_=>exact fun _=> ⟨rfl,rfl⟩)⟩),(⟨(by intro i hi;match i,hi with|0,_=>rfl|1,_=>rfl),(by intro i hi j hj;match i,j,hi,hj with|0,0,_,_=>exact bT.1 (show gJ (CV.bW (.own 29 false u0.badBus.length)) [29,27,25]=true from by kernel_rfl)|1,0,_,_=>exact bT.1 (show gJ (CV.bW (.own 27 false u0.badSource.length)) [29,27,25]=true from by kernel_rfl)|2,0,_,_=>exact bT.1 (show gJ (CV.bW (.own 25 false u0.badLink.length)) [29,27,25]=true from by kernel_rfl)),2,(by intro i hi;match i,hi with|0,_=>rfl|1,_=>rfl), .inr ⟨rfl,rfl⟩,rfl,rfl,(by intro i hi;match i,hi with|0,_=>exact fun _=> ⟨rfl,rfl⟩|1,_=>exact fun _=> ⟨rfl,rfl⟩)⟩),(⟨(by intro i hi;match i,hi with|0,_=>rfl|1,_=>rfl|2,_=>rfl), .inr ⟨rfl,(by intro i hi;match i,hi with|0,_=>exact congrArg some hb|1,_=>exact congrArg some hb2|2,_=>exact congrArg some hb4),rfl⟩⟩),trivial⟩ ?_
     refine aQ (aQ (bE h fun u4 hr_5 h=> ?_))
     have q0:=aT x.index 0 (-1) hr_5
     refine rg tT ⟨[(3,(vB is)),(5,(vP 20 0)),(6,(vP 21 0)),(8,(vP 22 0)),(11,(vD nS)),(38,(vB (!u4)))],(Nn x u0)⟩ [_] {an:=[(5,cA q0 [])] } [] ⟨q0,trivial⟩ ?_
     refine bI h (fun hb6 h=> ?_) (fun hb6 h=> ?_)
     ·refine ct hb6 ?_
      refine sz tT YZ {} [22] ?_
      refine aI (bG.le (st':=aav) ⟨⟨⟨_,rfl,fC.v (jw.one (bL.d (Kj ⟨dP.nil',dP.nil',dP.nil',dP.nil',dP.nil',dP.nil',dP.nil',trivial⟩)))⟩,tR,trivial⟩,trivial⟩) ?_
      refine aR ?_
      obtain rfl:=oi h
      exact rl ZV
     ·refine cf hb6 ?_
      refine aP (aQ ?_)
      cases h
def Iz  :(State × Int)→Exit→St→Prop:=
  fun r=>bn TT [.cell 6 29, .tmp 7] (.gL [(.agg [(.d (aC none 1 ah r.1.closed)),(.d (aC none 1 ah r.1.locked)),(.d (aC none 1 ah r.1.badLink)),(.d (aC none 1 ah r.1.on_)),(.d (aC none 1 ah r.1.badSource)),(.d (aC none 1 ah r.1.earthed)),(.d (aC none 1 ah r.1.badBus))]),(sI r.2)]) []
section
variable (r_:(State × Int))
abbrev agV:TV:=(vD (nN [(aC none 1 ah r_.1.closed),(aC none 1 ah r_.1.locked),(aC none 1 ah r_.1.badLink),(aC none 1 ah r_.1.on_),(aC none 1 ah r_.1.badSource),(aC none 1 ah r_.1.earthed),(aC none 1 ah r_.1.badBus)] 0))
end
theorem Gy (p:ai) (s_:State) (x:Part) {r:(State × Int)} (h:xW p s_ x=some r):Fn Try.prog 56 [(.agg (k1 p)),(.agg (Li s_)),(.agg [(cI x.kind),(cI x.index)])] [] (.gL [(.agg [(.d (aC none 1 ah r.1.closed)),(.d (aC none 1 ah r.1.locked)),(.d (aC none 1 ah r.1.badLink)),(.d (aC none 1 ah r.1.on_)),(.d (aC none 1 ah r.1.badSource)),(.d (aC none 1 ah r.1.earthed)),(.d (aC none 1 ah r.1.badBus))]),(sI r.2)]) []:=by
 refine fN tT Try.func56 rfl rfl fun B=> ?_
 show bJ _ _ _ _ _ _ (Iz r) _
 unfold xW at h
 refine sz tT ⟨[(bO p),(Be s_),(5,(vD (nN [(.int .i64 x.kind),(.int .i64 x.index)] 0))),(6,(vP 7 0))],[(7,some aaF)]⟩ {fr:=[(0,4),(1,5),(2,6),(3,7)] } [4,5,6] ?_
 refine aQ (bE h fun r_ hr_ h=> ?_)
 have q0:=Fe p s_ x true hr_
 refine rg tT ⟨[(6,(agV r_)),(7,(vI r_.2))],[]⟩ [_] {an:=[(3,cA q0 [])] } [7] ⟨q0,trivial⟩ ?_
 refine aR ?_
 obtain rfl:=oi h
 exact rl [(.agg [(.d (aC none 1 ah r_.1.closed)),(.d (aC none 1 ah r_.1.locked)),(.d (aC none 1 ah r_.1.badLink)),(.d (aC none 1 ah r_.1.on_)),(.d (aC none 1 ah r_.1.badSource)),(.d (aC none 1 ah r_.1.earthed)),(.d (aC none 1 ah r_.1.badBus))]),(sI r_.2)]
def Bo  :(Int × (List Source) × (List Link) × (List aJ) × (List Bool) × (List Bool) × (List Bool) × (List Bool) × (List Bool) × (List Bool) × (List Bool))→Exit→St→Prop:=
  fun r=>bn TT [.tmp 4] (vD (.fn 146 2 (uL [(nN [(.int .i64 r.1),(aC none 5 Source.cell r.2.1),(aC none 6 Link.cell r.2.2.1),(aC none 4 aJ.cell r.2.2.2.1)] 0),(nN [(aC none 1 ah r.2.2.2.2.1),(aC none 1 ah r.2.2.2.2.2.1),(aC none 1 ah r.2.2.2.2.2.2.1),(aC none 1 ah r.2.2.2.2.2.2.2.1),(aC none 1 ah r.2.2.2.2.2.2.2.2.1),(aC none 1 ah r.2.2.2.2.2.2.2.2.2.1),(aC none 1 ah r.2.2.2.2.2.2.2.2.2.2)] 0)]))) []
section
variable (p:ai) (s_:State)
abbrev O4:St:=⟨[(fo p),(jU s_)],[]⟩
abbrev agz:=(uL [(k8 p),(k78 s_)])
end
theorem Bl (p:ai) (s_:State) {r:(Int × (List Source) × (List Link) × (List aJ) × (List Bool) × (List Bool) × (List Bool) × (List Bool) × (List Bool) × (List Bool) × (List Bool))} (h:oD p s_=some r):Fn Try.prog 115 (Iq s_ p) [] (vD (.fn 146 2 (uL [(nN [(.int .i64 r.1),(aC none 5 Source.cell r.2.1),(aC none 6 Link.cell r.2.2.1),(aC none 4 aJ.cell r.2.2.2.1)] 0),(nN [(aC none 1 ah r.2.2.2.2.1),(aC none 1 ah r.2.2.2.2.2.1),(aC none 1 ah r.2.2.2.2.2.2.1),(aC none 1 ah r.2.2.2.2.2.2.2.1),(aC none 1 ah r.2.2.2.2.2.2.2.2.1),(aC none 1 ah r.2.2.2.2.2.2.2.2.2.1),(aC none 1 ah r.2.2.2.2.2.2.2.2.2.2)] 0)]))) []:=by
 refine fN tT Try.func115 rfl rfl fun B=> ?_
 show bJ _ _ _ _ _ _ (Bo r) _
 unfold oD at h
 refine sz tT (O4 p s_) {fr:=[(0,2),(1,3)] } [2,3] ?_
 refine sz tT ⟨[(4,(vD (.fn 146 2 (agz p s_))))],[]⟩ {} [] ?_
 refine aR ?_
 obtain rfl:=oi h
 exact rl [(sD (.fn 146 2 (agz p s_)))]
noncomputable def dY:pM:=⟨[22],LB ([1,1,0,1,0]++[0]) (sQ Try.f70),LB ([1,1,0,1,0]++[1]) (sQ Try.f70),125,[]⟩
section
variable (g:aF)
abbrev Wt:Ob:=(MN 3 3 false false 1 1 (aA .i64) (aA .i64) g.head)
abbrev Vr:List (Nat × Option Ob):=[(0,some (Wt g))]
end
def kQ (g:aF):Int→Exit→St→Prop:=
  fun r=>bn TT [.tmp 4] (vI r) (Vr g)
section
variable (g:aF) (x1:Int)
abbrev UN:List (Nat × Option Ob):=[(0,some (Wt g)),(2,some (.cells 215 [(.mp 0)]))]
abbrev ah0:St:=⟨[(1,(vI x1)),(2,(vP 2 0))],(UN g)⟩
end
def oP (g:aF):Int→St:=
  fun x1=>(ah0 g x1)
def o5  :Unit→St:=
  fun _=> ⟨[],[]⟩
def zH (g:aF):(aS Int (Ex Unit Int))→Exit→St→Prop:=
  LQ 0 [] (oP g) o5 (kQ g)
theorem iH (g:aF) (x:Int) {r:Int} (h:fH g x=some r):Fn Try.prog 117 [(.agg [(.mp 0)]),(sI x)] (Vr g) (vI r) (Vr g):=by
 refine fN tT Try.func117 rfl rfl fun B=> ?_
 show bJ _ _ _ _ _ _ ((kQ g) r) _
 unfold fH at h
 refine sz tT (ah0 g x) {fr:=[(0,2)] } [] ?_
 refine bE h fun y hy h=> ?_
 refine aL [] (oP g) o5 (kQ g) hy (fun s f h=> ?_) ?_
 ·clear hy
  show bJ _ _ _ _ _ _ ((zH g) f) _
  unfold o7 at h
  obtain⟨x1,rfl⟩: ∃q,q=s:=⟨_,rfl⟩
  refine aB (sg tT ⟨[(1,(vI x1)),(2,(vP 2 0)),(5,(vI ((dh iK x1 g.head).getD 0))),(6,(vB ((dh iK x1 g.head).isSome)))],(UN g)⟩ [qZ [some .i64] 1 1 g.head.length (DL (aA .i64) g.head) (FU (aA .i64) g.head) [(.int .i64 x1)] [(.d (.int .i64 0))] (dh iK x1 g.head).isSome [(cI ((dh iK x1 g.head).getD 0))]] {an:=[(3, .look (dh iK x1 g.head).isSome [(cI ((dh iK x1 g.head).getD 0))])] } [] ⟨(qN (fun _=>rfl) (fun _ _=>rfl) g.head x1 0 rfl rfl rfl),trivial⟩ ?_)
  refine aQ (sz tT ⟨[(1,(vI x1)),(2,(vP 2 0)),(5,(vI ((dh iK x1 g.head).getD 0))),(15,(vB (!((dh iK x1 g.head).isSome))))],(UN g)⟩ {} [] ?_)
  refine bI h (fun hb h=> ?_) (fun hb h=> ?_)
  ·refine ct hb ?_
   refine sz tT ⟨[(4,(vI x1))],(Vr g)⟩ {} [] ?_
   refine aR ?_
   obtain rfl:=oi h
   exact lR dF (dM 0) dB (bn.mk (.inr rfl) (p:=[]) (l:=[(sI x1)]) (by kernel_rfl) trivial (fC.refl _) (.refl _))
  ·refine cf hb ?_
   refine aP (rz tT ⟨[(1,(vI ((dh iK x1 g.head).getD 0))),(2,(vP 2 0))],(UN g)⟩ {} [] ?_)
   obtain rfl:=oi h
   exact lN
 ·clear hy
  cases y with
  |brk z=>exact absurd h (by simp)
  |ret v=>
   obtain rfl:=oi h
   unfold fZ
   intro e st hn ha hR
   cases e with
   |normal=>exact absurd rfl hn
   |exit id=>exact hR
   |goto l=>exact hR
   |ret=>exact hR
   |panic c=>exact hR
   |outgrown=>exact hR
def AX  :(List (Int × Int))→Exit→St→Prop:=
  fun r=>bn TT [] (.gL []) [(0,some (MN 3 3 false false 1 1 (aA .i64) (aA .i64) r))]
section
variable (a:Int) (b:Int) (g:aF)
abbrev afi:St:=⟨[(1,(vI a)),(2,(vI b)),(3,(vP 2 0))],(UN g)⟩
end
theorem Ac (g:aF) (a:Int) (b:Int) {r:(List (Int × Int))} (h:nK g a b=some r):Fn Try.prog 116 [(.agg [(.mp 0)]),(sI a),(sI b)] (Vr g) (.gL []) [(0,some (MN 3 3 false false 1 1 (aA .i64) (aA .i64) r))]:=by
 refine fN tT Try.func116 rfl rfl fun B=> ?_
 show bJ _ _ _ _ _ _ (AX r) _
 unfold nK at h
 refine sz tT (afi a b g) {fr:=[(0,2)] } [] ?_
 refine aQ (bE h fun r_ hr_ h=> ?_)
 refine bE h fun u0 hr_1 h=> ?_
 have q0:=iH g a hr_
 have q1:=iH g b hr_1
 refine dg tT mX (afi r_ u0 g) [_,_] {an:=[(2,cR q0 [0]),(5,cR q1 [0])] } [] ⟨q0,q1,trivial⟩ ?_
 refine sz tT ⟨[(1,(vI r_)),(2,(vI u0)),(3,(vP 2 0)),(14,(vB (!decide (r_=u0))))],(UN g)⟩ {} [] ?_
 refine bI h (fun hb h=> ?_) (fun hb h=> ?_)
 ·refine ct hb ?_
  refine rg tT ⟨[],[(0,some (MN 3 3 false false 1 1 (aA .i64) (aA .i64) (jI iK r_ u0 g.head)))]⟩ [sG [some .i64] 1 1 g.head.length (DL (aA .i64) g.head) (FU (aA .i64) g.head) [(.int .i64 r_)] [(cI u0)] [] (jI iK r_ u0 g.head).length (DL (aA .i64) (jI iK r_ u0 g.head)) (FU (aA .i64) (jI iK r_ u0 g.head))] {an:=[(4, .map (jI iK r_ u0 g.head).length (DL (aA .i64) (jI iK r_ u0 g.head)) (FU (aA .i64) (jI iK r_ u0 g.head)) [])] } [] ⟨(JA (fun _=>rfl) (fun _ _=>rfl) g.head r_ u0 rfl rfl),trivial⟩ ?_
  obtain rfl:=oi h
  exact bn.mk (.inl rfl) (p:=[]) (l:=[]) (by kernel_rfl) trivial (fC.refl _) (.refl _)
 ·refine cf hb ?_
  refine aI (fz ⟨[],(Vr g)⟩ []) ?_
  refine aP ?_
  obtain rfl:=oi h
  exact bn.mk (.inl rfl) (p:=[]) (l:=[]) (by kernel_rfl) trivial (fC.refl _) (.refl _)
abbrev RP:Nat × Option Ob:=(0,some (.loop dY 0 [(5,(vP 1 0))]))
abbrev NZ:Nat × Option Ob:=(1,some (.cells 215 [(.mp 2)]))
def Al  :aF→Exit→St→Prop:=
  fun r=>ru 0 dY (vB true) [RP,NZ,(2,some (MN 3 3 false false 1 1 (aA .i64) (aA .i64) r.head))]
section
variable (o_:aF) (u0:Int) (u1:Int) (u2:Int) (u3:Int) (u4:Int) (u5:(List dU))
abbrev Ii:List (Nat × Option Ob):=[RP,NZ,(2,some (Wt o_))]
abbrev adr:List (Nat × TV):=[(5,(vP 1 0)),(6,(vD (nN [(.int .i64 u0),(.int .i64 u1),(.int .i64 u2),(.int .i64 u3),(.int .i64 u4),(aC none 2 dU.cell u5)] 0)))]
end
theorem yZ (u0:Int) (u1:Int) (u2:Int) (u3:Int) (u4:Int) (u5:(List dU)) (o_:aF) {r:aF} (h:mO u0 u1 u2 u3 u4 u5 o_=some r):Yl Try.prog 0 [(.agg [(cI u0),(cI u1),(cI u2),(cI u3),(cI u4),(.d (aC none 2 dU.cell u5))])] (Ii o_) (vB true) [RP,NZ,(2,some (MN 3 3 false false 1 1 (aA .i64) (aA .i64) r.head))]:=by
 refine KE (r:=dY) (sl:=[(5,(vP 1 0))]) (sl1:=(adr u0 u1 u2 u3 u4 u5)) (h1:=(Ii o_)) (sl2:=[(5,(vP 1 0))]) (by kernel_rfl) rfl rfl (by kernel_rfl) (fun rd B=> ?_) (by kernel_rfl) (fun rd B=> ?_)
 ·refine zo (c:=LB ([1,1,0,1,0]++[0]) (sQ Try.f70)) rfl ?_
  refine uQ (st:=⟨[(22,(.v (.agg [(cI u0),(cI u1),(cI u2),(cI u3),(cI u4),(.d (aC none 2 dU.cell u5))]))),(5,(vP 1 0))],(Ii o_)⟩) (by kernel_rfl) ?_
  refine rz tT ⟨(adr u0 u1 u2 u3 u4 u5),(Ii o_)⟩ {fr:=[(0,4)] } [4] ?_
  exact⟨rfl,rfl⟩
 ·refine zo (c:=LB ([1,1,0,1,0]++[1]) (sQ Try.f70)) rfl ?_
  refine uQ (st:=⟨(adr u0 u1 u2 u3 u4 u5),[(0,some (.loop dY 1 [(5,(vP 1 0))])),NZ,(2,some (Wt o_))]⟩) (by kernel_rfl) ?_
  show bJ _ _ _ _ _ _ (Al r) _
  unfold mO at h
  refine aB (bE h fun r_ hr_ h=> ?_)
  have q0:=rk [(0,2)] (Ac o_ u0 u1 hr_)
  refine rg tT ⟨[],[(0,some (.loop dY 1 [(5,(vP 1 0))])),NZ,(2,some (aaG r_))]⟩ [_] {an:=[(5,cA q0 [2])] } [] ⟨q0,trivial⟩ ?_
  obtain rfl:=oi h
  exact ru.on (sl:=[(5,(vP 1 0))]) (by kernel_rfl) (EU (by kernel_rfl)) (fC.refl _)
def kX  :aF→Exit→St→Prop:=
  fun r=>bn TT [] (.gL []) [RP,NZ,(2,some (MN 3 3 false false 1 1 (aA .i64) (aA .i64) r.head))]
section
variable (x2:(List Bool)) (u1:(List Bool)) (u2:(List Bool)) (u3:(List Bool)) (u4:(List Bool)) (u5:(List Bool)) (u6:(List Bool)) (u0:(List Link)) (u7:(List (Int × Int)))
abbrev af7:DV:=(nN [(aC none 1 ah x2),(aC none 1 ah u1),(aC none 1 ah u2),(aC none 1 ah u3),(aC none 1 ah u4),(aC none 1 ah u5),(aC none 1 ah u6)] 0)
abbrev Oi:Nat × TV:=(2,(vD (af7 x2 u1 u2 u3 u4 u5 u6)))
abbrev NY:Nat × TV:=(7,(vD (aC none 6 Link.cell u0)))
abbrev Nz:Nat × TV:=(8,(vI (u0.length:Int)))
abbrev OQ:List (Nat × Option Ob):=[RP,NZ,(2,some (aaG u7))]
end
def oM (u0:(List Link)) (x2:(List Bool)) (u1:(List Bool)) (u2:(List Bool)) (u3:(List Bool)) (u4:(List Bool)) (u5:(List Bool)) (u6:(List Bool)):((List (Int × Int)) × Int)→St:=
  fun zz=>match zz with|(u7,t9)=> ⟨[yI,(Oi x2 u1 u2 u3 u4 u5 u6),(NY u0),(Nz u0),(9,(vI t9))],(OQ u7)⟩
def pu  :(List (Int × Int))→St:=
  fun o501=> ⟨[],[RP,NZ,(2,some (MN 3 3 false false 1 1 (aA .i64) (aA .i64) o501))]⟩
def yR (u0:(List Link)) (x2:(List Bool)) (u1:(List Bool)) (u2:(List Bool)) (u3:(List Bool)) (u4:(List Bool)) (u5:(List Bool)) (u6:(List Bool)):(aS ((List (Int × Int)) × Int) (Ex (List (Int × Int)) aF))→Exit→St→Prop:=
  LQ 0 [] (oM u0 x2 u1 u2 u3 u4 u5 u6) pu kX
section
variable (x2:(List Bool)) (t9:Int) (u1:(List Bool)) (u2:(List Bool)) (u0:(List Link)) (u3:(List Bool)) (u4:(List Bool)) (u5:(List Bool)) (u6:(List Bool))
abbrev OI:=(bif (at' x2 t9.toNat)then(!(at' u1 t9.toNat))else false)
abbrev Nr:=(bif (OI x2 t9 u1)then(!(at' u2 (((at' u0 t9.toNat).a).toNat)))else false)
abbrev Ic:=(bif (Nr x2 t9 u1 u2 u0)then(!(at' u2 (((at' u0 t9.toNat).b).toNat)))else false)
abbrev Xe:=(iD [(5,(at' x2 t9.toNat)),(13,(OI x2 t9 u1)),(22,(Nr x2 t9 u1 u2 u0)),(31,true)])
abbrev ae0:List (Nat × TV):=[yI,(Oi x2 u3 u1 u4 u5 u6 u2),(NY u0),(Nz u0),(9,(uM t9))]
abbrev R8:=(iD [(5,(at' x2 t9.toNat)),(13,(OI x2 t9 u1)),(22,(Nr x2 t9 u1 u2 u0)),(31,false)])
end
theorem yD (x1:Int) (u8:(List Source)) (u0:(List Link)) (u9:(List aJ)) (x2:(List Bool)) (u3:(List Bool)) (u1:(List Bool)) (u4:(List Bool)) (u5:(List Bool)) (u6:(List Bool)) (u2:(List Bool)) (o_:aF) {r:aF} (h:mM x1 u8 u0 u9 x2 u3 u1 u4 u5 u6 u2 o_=some r):Fn Try.prog 146 [(.one (.yl 0)),(sD (k10 x1 u8 u0 u9)),(sD (af7 x2 u3 u1 u4 u5 u6 u2))] (Ii o_) (.gL []) [RP,NZ,(2,some (MN 3 3 false false 1 1 (aA .i64) (aA .i64) r.head))]:=by
 refine fN tT Try.func146 rfl rfl fun B=> ?_
 show bJ _ _ _ _ _ _ (kX r) _
 unfold mM at h
 refine sz tT ⟨[yI,(Oi x2 u3 u1 u4 u5 u6 u2),(NY u0),(Nz u0),(9,(vI 0))],(Ii o_)⟩ {} [] ?_
 refine bE h fun y hy h=> ?_
 refine aL [] (oM u0 x2 u3 u1 u4 u5 u6 u2) pu kX hy (fun s f h=> ?_) ?_
 ·clear hy
  show bJ _ _ _ _ _ _ ((yR u0 x2 u3 u1 u4 u5 u6 u2) f) _
  unfold o8 at h
  obtain⟨u7,t9⟩:=s
  refine sz tT ⟨[yI,(Oi x2 u3 u1 u4 u5 u6 u2),(NY u0),(Nz u0),(9,(vI t9)),(10,(vB (decide (t9<(u0.length:Int)))))],(OQ u7)⟩ {} [] ?_
  refine aQ ?_
  refine bI h (fun hb2 h=> ?_) (fun hb2 h=> ?_)
  ·refine ct hb2 ?_
   refine aP (aQ (aB (aQ (aO h fun a1 h=> ?_))))
   refine rg tT ⟨[yI,(Oi x2 u3 u1 u4 u5 u6 u2),(4,(vI t9)),(5,(vD (nN [(.int .i64 ((at' u0 t9.toNat).a)),(.int .i64 ((at' u0 t9.toNat).b)),(.int .i64 ((at' u0 t9.toNat).kind)),(.int .i64 ((at' u0 t9.toNat).most)),(.int .i64 ((at' u0 t9.toNat).bK)),(aC none 2 dU.cell ((at' u0 t9.toNat).trip))] 0))),(NY u0),(Nz u0),(9,(vI t9))],(OQ u7)⟩ [_] {fr:=[(3,10)] } [10] ⟨a1,trivial⟩ ?_
   refine aQ ?_
   refine bI h (fun hb h=> ?_) (fun hb h=> ?_)
   ·skip
    refine bE h fun r_ hr_ h=> ?_
    refine aO h fun⟨a1,a2,a3,a4⟩ h=> ?_
    refine ri tT ⟨[yI,(Oi x2 u3 u1 u4 u5 u6 u2),(NY u0),(Nz u0),(9,(vI t9)),(50,(vB (bif (Ic x2 t9 u1 u2 u0)then(!true)else false)))],(Ii r_)⟩ (_::(eqs (at' x2 t9.toNat) 4 ((gP (Xe x2 t9 u1 u2 u0) [(5,true)]→All [(0:Int)≤t9∧t9<(u1.length:Int)])::(eqs (at' x2 t9.toNat) 3 (eqs (OI x2 t9 u1) 5 ((gP (Xe x2 t9 u1 u2 u0) [(13,true)]→All [(0:Int)≤(at' u0 t9.toNat).a∧(at' u0 t9.toNat).a<(u2.length:Int)])::(eqs (OI x2 t9 u1) 3 (eqs (Nr x2 t9 u1 u2 u0) 5 ((gP (Xe x2 t9 u1 u2 u0) [(22,true)]→All [(0:Int)≤(at' u0 t9.toNat).b∧(at' u0 t9.toNat).b<(u2.length:Int)])::(eqs (Nr x2 t9 u1 u2 u0) 3 [(Ic x2 t9 u1 u2 u0)=true,(Ic x2 t9 u1 u2 u0)=true,(Ic x2 t9 u1 u2 u0)=true,gP (Xe x2 t9 u1 u2 u0) [(31,true)]→All [Yl Try.prog 0 [(.agg [(cI ((at' u0 t9.toNat).a)),(cI ((at' u0 t9.toNat).b)),(cI ((at' u0 t9.toNat).kind)),(cI ((at' u0 t9.toNat).most)),(cI ((at' u0 t9.toNat).bK)),(.d (aC none 2 dU.cell ((at' u0 t9.toNat).trip)))])] (OQ u7) (vB true) (Ii r_)],gP (Xe x2 t9 u1 u2 u0) [(31,true)],(Ic x2 t9 u1 u2 u0)=true,(Ic x2 t9 u1 u2 u0)=true])))))))))) {yb:=[(5,(at' x2 t9.toNat)),(13,(OI x2 t9 u1)),(22,(Nr x2 t9 u1 u2 u0)),(31,true)],an:=[(34, .call [0,1,2] (vB true) (Ii r_))] } [] ⟨a1,(ae ⟨(fun hg=> ⟨(a2 (aZ hg)),trivial⟩),(ae (ae ⟨(fun hg=> ⟨(a3 (aZ hg)),trivial⟩),(ae (ae ⟨(fun hg=> ⟨(a4 (aZ hg)),trivial⟩),(ae ⟨(hb),(hb),(hb),(fun hg=> ⟨(yZ ((at' u0 t9.toNat).a) ((at' u0 t9.toNat).b) ((at' u0 t9.toNat).kind) ((at' u0 t9.toNat).most) ((at' u0 t9.toNat).bK) ((at' u0 t9.toNat).trip) (⟨u7⟩:aF) hr_),trivial⟩),(⟨rfl,trivial⟩),(hb),(hb),trivial⟩)⟩))⟩))⟩)⟩ (bG.le (st':=⟨[yI,(Oi x2 u3 u1 u4 u5 u6 u2),(NY u0),(Nz u0),(9,(vI t9)),(50,(vB (!true)))],(Ii r_)⟩) ⟨⟨tR,tR,tR,tR,tR,⟨_,rfl,fC.v (jw.one (bL.of (congrArg (fun b=>CV.d (.bool b)) (XY hb))))⟩,trivial⟩,(.refl _)⟩) ?_
    refine bI h (fun hb1 h=> ?_) (fun hb1 h=> ?_)
    ·refine ct hb1 ?_
     refine aI (fz ⟨[],(Ii r_)⟩ []) ?_
     refine aR ?_
     obtain rfl:=oi h
     exact lR dF (dM 0) dB (bn.mk (.inr rfl) (p:=[]) (l:=[]) (by kernel_rfl) trivial (fC.refl _) (.refl _))
    ·refine cf hb1 ?_
     refine aP (rz tT ⟨(ae0 x2 t9 u1 u2 u0 u3 u4 u5 u6),(Ii r_)⟩ {} [] ?_)
     obtain rfl:=oi h
     exact lN
   ·skip
    refine aO h fun⟨a1,a2,a3,a4⟩ h=> ?_
    refine ri tT ⟨[yI,(Oi x2 u3 u1 u4 u5 u6 u2),(NY u0),(Nz u0),(9,(vI t9)),(50,(vB (bif (Ic x2 t9 u1 u2 u0)then false else false)))],(OQ u7)⟩ (_::(eqs (at' x2 t9.toNat) 4 ((gP (R8 x2 t9 u1 u2 u0) [(5,true)]→All [(0:Int)≤t9∧t9<(u1.length:Int)])::(eqs (at' x2 t9.toNat) 3 (eqs (OI x2 t9 u1) 5 ((gP (R8 x2 t9 u1 u2 u0) [(13,true)]→All [(0:Int)≤(at' u0 t9.toNat).a∧(at' u0 t9.toNat).a<(u2.length:Int)])::(eqs (OI x2 t9 u1) 3 (eqs (Nr x2 t9 u1 u2 u0) 5 ((gP (R8 x2 t9 u1 u2 u0) [(22,true)]→All [(0:Int)≤(at' u0 t9.toNat).b∧(at' u0 t9.toNat).b<(u2.length:Int)])::(eqs (Nr x2 t9 u1 u2 u0) 3 [(Ic x2 t9 u1 u2 u0)=false, ¬ gP (R8 x2 t9 u1 u2 u0) [(31,true)],(Ic x2 t9 u1 u2 u0)=false, ¬ gP (R8 x2 t9 u1 u2 u0) [(31,true)],(Ic x2 t9 u1 u2 u0)=false, ¬ gP (R8 x2 t9 u1 u2 u0) [(31,true)],(Ic x2 t9 u1 u2 u0)=false, ¬ gP (R8 x2 t9 u1 u2 u0) [(31,true)],(Ic x2 t9 u1 u2 u0)=false])))))))))) {yb:=[(5,(at' x2 t9.toNat)),(13,(OI x2 t9 u1)),(22,(Nr x2 t9 u1 u2 u0)),(31,false)],an:=[(32, .skip),(33, .skip),(34, .skip),(35, .skip)] } [] ⟨a1,(ae ⟨(fun hg=> ⟨(a2 (aZ hg)),trivial⟩),(ae (ae ⟨(fun hg=> ⟨(a3 (aZ hg)),trivial⟩),(ae (ae ⟨(fun hg=> ⟨(a4 (aZ hg)),trivial⟩),(ae ⟨(hb),((fun h=>Bool.noConfusion (show false=true from h.1))),(hb),((fun h=>Bool.noConfusion (show false=true from h.1))),(hb),((fun h=>Bool.noConfusion (show false=true from h.1))),(hb),((fun h=>Bool.noConfusion (show false=true from h.1))),(hb),trivial⟩)⟩))⟩))⟩)⟩ (bG.le (st':=⟨[yI,(Oi x2 u3 u1 u4 u5 u6 u2),(NY u0),(Nz u0),(9,(vI t9)),(50,(vB false))],(OQ u7)⟩) ⟨⟨tR,tR,tR,tR,tR,⟨_,rfl,fC.v (jw.one (bL.of (congrArg (fun b=>CV.d (.bool b)) (WZ hb))))⟩,trivial⟩,(.refl _)⟩) ?_
    refine cn (aP (rz tT ⟨(ae0 x2 t9 u1 u2 u0 u3 u4 u5 u6),(OQ u7)⟩ {} [] ?_))
    obtain rfl:=oi h
    exact lN
  ·refine cf hb2 ?_
   refine aI (fz ⟨[],(OQ u7)⟩ []) ?_
   refine aX ?_
   obtain rfl:=oi h
   exact lB
 ·clear hy
  cases y with
  |brk z=>
   obtain⟨o501,rfl⟩: ∃q,q=z:=⟨_,rfl⟩
   unfold fZ
   refine⟨_, .refl, ?_⟩
   obtain rfl:=oi h
   exact bn.mk (.inl rfl) (p:=[]) (l:=[]) (by kernel_rfl) trivial (fC.refl _) (.refl _)
  |ret v=>
   obtain rfl:=oi h
   unfold fZ
   intro e st hn ha hR
   cases e with
   |normal=>exact absurd rfl hn
   |exit id=>exact hR
   |goto l=>exact hR
   |ret=>exact hR
   |panic c=>exact hR
   |outgrown=>exact hR
def iB  :(List aM)→Exit→St→Prop:=
  fun r=>bn TT [.tmp 4] (vD (aC none 2 aM.cell r)) []
section
variable (u0:(List aM)) (s_:State) (p:ai) (u3:Int) (u1:aF) (u2:(List (Int × Int)))
abbrev Bj:Nat × TV:=(7,(vO 60 false u0.length))
abbrev pW:Nat × TV:=(8,(.v (.one (.mp 61))))
abbrev ain:List (Nat × TV):=[(2,(vP 55 0)),(jU s_),(5,(vP 58 0)),(Bj u0),pW,(31,(vI p.buses)),(32,(vI u3))]
abbrev Fg:Nat × Option Ob:=(55,some (k97 p))
abbrev Dj:Nat × Option Ob:=(57,some (Wt u1))
abbrev AV:Nat × Option Ob:=(58,some (.cells 215 [(.mp 57)]))
abbrev Xi:Nat × Option Ob:=(60,some (.rows 123 2 u0.length (Ag aM.ev u0) none))
abbrev Um:Nat × Option Ob:=(61,some (aaG u2))
abbrev LM:List (Nat × Option Ob):=[(Fg p),(Dj u1),AV,(Xi u0),(Um u2)]
end
def qE (p:ai) (s_:State) (u1:aF):((List aM) × (List (Int × Int)) × Int)→St:=
  fun zz=>match zz with|(u0,u2,u3)=> ⟨(ain u0 s_ p u3),(LM u0 p u1 u2)⟩
section
variable (s_:State) (u0:(List aM)) (p:ai) (u1:aF) (u2:(List (Int × Int)))
abbrev ahN:St:=⟨[(2,(vP 55 0)),(jU s_),(5,(vP 58 0)),(Bj u0),pW],(LM u0 p u1 u2)⟩
end
def qF (p:ai) (s_:State) (u1:aF):((List aM) × (List (Int × Int)))→St:=
  fun zz=>match zz with|(u0,u2)=>(ahN s_ u0 p u1 u2)
def AP (p:ai) (s_:State) (u0:aF):(aS ((List aM) × (List (Int × Int)) × Int) (Ex ((List aM) × (List (Int × Int))) (List aM)))→Exit→St→Prop:=
  LQ 2 [] (qE p s_ u0) (qF p s_ u0) iB
section
variable (p:ai) (s_:State) (u0:(List aM)) (u3:Int) (u1:aF) (u2:(List (Int × Int)))
abbrev Ni:Nat × TV:=(76,(vD (k2 p)))
abbrev Oh:Nat × TV:=(77,(vI (p.sources.length:Int)))
abbrev aeP:List (Nat × TV):=[(jU s_),(5,(vP 58 0)),(Bj u0),pW,(Ni p),(Oh p),(78,(vI u3))]
abbrev SI:List (Nat × Option Ob):=[(Dj u1),AV,(Xi u0),(Um u2)]
end
def qD (p:ai) (s_:State) (u1:aF) (u2:(List (Int × Int))):((List aM) × Int)→St:=
  fun zz=>match zz with|(u0,u3)=> ⟨(aeP p s_ u0 u3),(SI u0 u1 u2)⟩
section
variable (u0:(List aM))
abbrev aeO:St:=⟨[(Bj u0)],[(Xi u0)]⟩
end
def qy  :(List aM)→St:=
  fun u0=>(aeO u0)
def A8 (p:ai) (s_:State) (u0:aF) (u1:(List (Int × Int))):(aS ((List aM) × Int) (Ex (List aM) (List aM)))→Exit→St→Prop:=
  LQ 4 [] (qD p s_ u0 u1) qy iB
section
variable (p:ai) (r_:(Int × (List Source) × (List Link) × (List aJ) × (List Bool) × (List Bool) × (List Bool) × (List Bool) × (List Bool) × (List Bool) × (List Bool))) (s_:State) (u8:aF) (u3:Int) (u0:(List aM)) (u1:Int) (u2:(List (Int × Int))) (u5:Int) (u6:(List aM)) (u7:Int) (u4:(List (Int × Int)))
abbrev ajK:Nat × Option Ob:=(57,some acF)
abbrev agy:List (Nat × Option Ob):=[(Fg p),ajK,AV]
abbrev adR:DV:=(nN [(.int .i64 r_.1),(aC none 5 Source.cell r_.2.1),(aC none 6 Link.cell r_.2.2.1),(aC none 4 aJ.cell r_.2.2.2.1)] 0)
abbrev acN:DV:=(nN [(aC none 1 ah r_.2.2.2.2.1),(aC none 1 ah r_.2.2.2.2.2.1),(aC none 1 ah r_.2.2.2.2.2.2.1),(aC none 1 ah r_.2.2.2.2.2.2.2.1),(aC none 1 ah r_.2.2.2.2.2.2.2.2.1),(aC none 1 ah r_.2.2.2.2.2.2.2.2.2.1),(aC none 1 ah r_.2.2.2.2.2.2.2.2.2.2)] 0)
abbrev afO:TV:=(vD (.fn 146 2 (uL [(adR r_),(acN r_)])))
abbrev agQ:List (Nat × TV):=[(2,(vP 55 0)),(jU s_),(5,(vP 58 0)),(21,(afO r_))]
abbrev ahK:List (Nat × Option Ob):=[(Fg p),(Dj u8),AV]
abbrev ah7:Nat × Option Ob:=(60,some (.rows 123 2 ([]:List aM).length (Ag aM.ev ([]:List aM)) none))
abbrev aiQ:List (Nat × Option Ob):=[(Fg p),(Dj u8),AV,ah7,(61,some acF)]
abbrev X8:Nat × TV:=(32,(uM u3))
abbrev ae7:List (Nat × TV):=[(2,(vP 55 0)),(jU s_),(5,(vP 58 0)),(Bj u0),pW,(9,(vI u3)),(10,(vI u1)),(31,(vI p.buses)),(32,(vI u3))]
abbrev rf:=((dh iK u1 u2).getD 0)
abbrev U1:List CV:=[(cI (rf u1 u2))]
abbrev Fw:=(jI iK u1 (u0.length:Int) u2)
abbrev Xk:Nat × Option Ob:=(61,some (MN 3 3 false false 1 1 (aA .i64) (aA .i64) (Fw u0 u1 u2)))
abbrev Gq:=(u0++[(⟨([]:List Int),([]:List Int)⟩:aM)])
abbrev ad7:Nat × TV:=(7,(vO 87 false ((Gq u0).length)))
abbrev aac:=(Ag aM.ev (Gq u0))
abbrev aiw:List (Nat × Option Ob):=[(Fg p),(Dj u8),AV,(Xk u0 u1 u2),(87,some (.rows 123 2 (Gq u0).length (aac u0) none))]
abbrev IC:=((dh iK u1 (Fw u0 u1 u2)).getD 0)
abbrev adw:=((IC u0 u1 u2).toNat)
abbrev agG:=(at' (Gq u0) (adw u0 u1 u2))
abbrev OB:=((agG u0 u1 u2).buses)
abbrev Rk:=((OB u0 u1 u2)++[u3])
abbrev ZK:=((Gq u0).set (adw u0 u1 u2) (⟨(Rk u3 u0 u1 u2),(agG u0 u1 u2).sources⟩:aM))
abbrev Yo:=(Ag aM.ev (ZK u3 u0 u1 u2))
abbrev afj:=((OB u0 u1 u2).length+[u3].length)
abbrev adV:=(au (aA .i64) (Rk u3 u0 u1 u2))
abbrev ahP:=((ZK u3 u0 u1 u2).length)
abbrev afT:Nat × TV:=(7,(vO 87 false (ahP u3 u0 u1 u2)))
abbrev aeS:List (Nat × Option Ob):=[(Fg p),(Dj u8),AV,(Xk u0 u1 u2),(87,some (.rows 123 2 (ZK u3 u0 u1 u2).length (Yo u3 u0 u1 u2) none))]
abbrev LJ:=((at' u0 ((rf u1 u2).toNat)).buses)
abbrev Sl:=((LJ u0 u1 u2)++[u3])
abbrev adA:=(u0.set ((rf u1 u2).toNat) (⟨(Sl u3 u0 u1 u2),(at' u0 ((rf u1 u2).toNat)).sources⟩:aM))
abbrev Z8:=(Ag aM.ev (adA u3 u0 u1 u2))
abbrev ael:=(au (aA .i64) (Sl u3 u0 u1 u2))
abbrev ahA:Nat × TV:=(7,(vO 60 false ((adA u3 u0 u1 u2).length)))
abbrev agH:List (Nat × Option Ob):=[(Fg p),(Dj u8),AV,(60,some (.rows 123 2 (adA u3 u0 u1 u2).length (Z8 u3 u0 u1 u2) none)),(Um u2)]
abbrev aiE:Nat × TV:=(15,(abY p u5))
abbrev LD:=((at' u6 ((rf u7 u4).toNat)).sources)
abbrev R7:=((LD u6 u7 u4)++[u5])
abbrev aeh:=(u6.set ((rf u7 u4).toNat) (⟨(at' u6 ((rf u7 u4).toNat)).buses,(R7 u5 u6 u7 u4)⟩:aM))
abbrev aaK:=(Ag aM.ev (aeh u5 u6 u7 u4))
abbrev acP:=(au (aA .i64) (R7 u5 u6 u7 u4))
abbrev afk:Nat × TV:=(7,(vO 60 false ((aeh u5 u6 u7 u4).length)))
abbrev ahu:List (Nat × Option Ob):=[(Dj u8),AV,(60,some (.rows 123 2 (aeh u5 u6 u7 u4).length (aaK u5 u6 u7 u4) none)),(Um u4)]
end
theorem Bf (p:ai) (s_:State) {r:(List aM)} (h:tJ p s_=some r):Fn Try.prog 70 (Iq s_ p) [] (vD (aC none 2 aM.cell r)) []:=by
 refine fN tT Try.func70 rfl rfl fun B=> ?_
 show bJ _ _ _ _ _ _ (iB r) _
 unfold tJ at h
 refine sz tT ⟨[(2,(vP 55 0)),(jU s_)],[(Fg p)]⟩ {fr:=[(0,55),(1,56)] } [56] ?_
 refine sz tT ⟨[(2,(vP 55 0)),(jU s_),(5,(vP 58 0))],(agy p)⟩ {an:=[(0, .map 0 (DL (aA .i64) ([]:(List (Int × Int)))) (FU (aA .i64) ([]:(List (Int × Int)))) [])],fr:=[(0,57),(2,58)] } [] ?_
 refine aQ (aQ (bE h fun r_ hr_ h=> ?_))
 have q0:=Bl p s_ hr_
 refine rg tT ⟨(agQ r_ s_),(agy p)⟩ [_] {an:=[(2,cA q0 [])] } [] ⟨q0,trivial⟩ ?_
 refine aB (bE h fun u8 hr_1 h=> ?_)
 refine vW 59 [(5,(vP 58 0))] [] [59,58,57] (.gL []) [(59,some (.loop dY 0 [(5,(vP 58 0))])),AV,(Dj u8)] (afO r_) 146 [] [(.d (adR r_)),(.d (acN r_))] [(59,some (.loop dY 0 [(5,(vP 58 0))])),AV,ajK] [(.one (.yl 59)),(sD (adR r_)),(sD (acN r_))] dY 0 [(5,(vP 58 0))] (by kernel_rfl) (by kernel_rfl) (by kernel_rfl) (by kernel_rfl) (by kernel_rfl) (by kernel_rfl) (by kernel_rfl) (rK [(0,59),(1,58),(2,57)] (yD r_.1 r_.2.1 r_.2.2.1 r_.2.2.2.1 r_.2.2.2.2.1 r_.2.2.2.2.2.1 r_.2.2.2.2.2.2.1 r_.2.2.2.2.2.2.2.1 r_.2.2.2.2.2.2.2.2.1 r_.2.2.2.2.2.2.2.2.2.1 r_.2.2.2.2.2.2.2.2.2.2 (⟨([]:(List (Int × Int)))⟩:aF) hr_1)) (by kernel_rfl) rfl (M7.zero rfl) (bG.fin (st':=⟨(agQ r_ s_),(ahK p u8)⟩) (cs:=[]) ⟨[],[(55,55),(57,57),(58,58)]⟩ [2,3,5,21] (by kernel_rfl) trivial) ?_
 refine si tT ⟨[(2,(vP 55 0)),(jU s_),(5,(vP 58 0)),(7,(vD nS))],(ahK p u8)⟩ [] {} [] trivial (.trans (bG.ac0 (t:=7) (b:=60) (esz0:=0) (el0:=fun _ _=> .nilp) (E:=123) (esz:=2) (el:=Ag aM.ev ([]:List aM)) (ov:=none) (by kernel_rfl) (by kernel_rfl)) (.trans (fz ⟨[(2,(vP 55 0)),(jU s_),(5,(vP 58 0)),(7,(vO 60 false 0))],[(Fg p),(Dj u8),AV,(60,some (.rows 123 2 0 (Ag aM.ev ([]:List aM)) none))]⟩ []) (bG.le (st':=⟨[(2,(vP 55 0)),(jU s_),(5,(vP 58 0)),(7,(vO 60 false (([]:List aM).length)))],[(Fg p),(Dj u8),AV,ah7]⟩) ⟨⟨tR,tR,tR,⟨_,rfl,fC.v (jw.one cW)⟩,trivial⟩,(hN 3 ⟨rfl,EW (by simp only [List.length_set,List.length_append,List.length_cons,List.length_nil,List.length_replicate]),trivial⟩)⟩))) ?_
 refine sz tT ⟨[(2,(vP 55 0)),(jU s_),(5,(vP 58 0)),(7,(vO 60 false (([]:List aM).length))),pW],(aiQ p u8)⟩ {an:=[(0, .map 0 (DL (aA .i64) ([]:(List (Int × Int)))) (FU (aA .i64) ([]:(List (Int × Int)))) [])],fr:=[(0,61)] } [] ?_
 refine aQ (sz tT ⟨[(2,(vP 55 0)),(jU s_),(5,(vP 58 0)),(7,(vO 60 false (([]:List aM).length))),pW,(31,(vI p.buses)),(32,(vI 0))],(aiQ p u8)⟩ {} [] ?_)
 refine bE h fun y hy h=> ?_
 refine aL [] (qE p s_ u8) (qF p s_ u8) iB hy (fun s f h=> ?_) ?_
 ·clear hy
  show bJ _ _ _ _ _ _ ((AP p s_ u8) f) _
  unfold vS at h
  obtain⟨u0,u2,u3⟩:=s
  refine sz tT ⟨[(2,(vP 55 0)),(jU s_),(5,(vP 58 0)),(Bj u0),pW,(31,(vI p.buses)),(32,(vI u3)),(33,(vB (decide (u3<p.buses))))],(LM u0 p u8 u2)⟩ {} [] ?_
  refine aQ ?_
  refine bI h (fun hb2 h=> ?_) (fun hb2 h=> ?_)
  ·refine ct hb2 ?_
   refine aP (aQ (aB (sz tT ⟨[(2,(vP 55 0)),(jU s_),(5,(vP 58 0)),(Bj u0),pW,(9,(vI u3)),(31,(vI p.buses)),(32,(vI u3))],(LM u0 p u8 u2)⟩ {} [] ?_)))
   refine aQ (aQ (aO h fun a1 h=> ?_))
   refine rg tT ⟨[(2,(vP 55 0)),(jU s_),(5,(vP 58 0)),(Bj u0),pW,(9,(vI u3)),(31,(vI p.buses)),(32,(vI u3)),(39,(vB (at' s_.badBus u3.toNat)))],(LM u0 p u8 u2)⟩ [_] {} [] ⟨a1,trivial⟩ ?_
   refine bI h (fun hb1 h=> ?_) (fun hb1 h=> ?_)
   ·refine ct hb1 ?_
    refine aX (rz tT ⟨[(2,(vP 55 0)),(jU s_),(5,(vP 58 0)),(Bj u0),pW,(31,(vI p.buses)),(X8 u3)],(LM u0 p u8 u2)⟩ {} [] ?_)
    obtain rfl:=oi h
    exact lN
   ·refine cf hb1 ?_
    refine aP (aQ (bE h fun u1 hr_2 h=> ?_))
    have q0:=rk [(0,57)] (iH u8 u3 hr_2)
    refine rg tT ⟨(ae7 p s_ u3 u0 u1),(LM u0 p u8 u2)⟩ [_] {an:=[(2,cR q0 [57])] } [] ⟨q0,trivial⟩ ?_
    refine aQ (sg tT ⟨[(2,(vP 55 0)),(jU s_),(5,(vP 58 0)),(Bj u0),pW,(9,(vI u3)),(10,(vI u1)),(12,(vB ((dh iK u1 u2).isSome))),(31,(vI p.buses)),(32,(vI u3))],(LM u0 p u8 u2)⟩ [qZ [some .i64] 1 1 u2.length (DL (aA .i64) u2) (FU (aA .i64) u2) [(.int .i64 u1)] [(.d (.int .i64 0))] (dh iK u1 u2).isSome (U1 u1 u2)] {an:=[(2, .look (dh iK u1 u2).isSome (U1 u1 u2))] } [] ⟨(qN (fun _=>rfl) (fun _ _=>rfl) u2 u1 0 rfl rfl rfl),trivial⟩ ?_)
    refine sz tT ⟨[(2,(vP 55 0)),(jU s_),(5,(vP 58 0)),(Bj u0),pW,(9,(vI u3)),(10,(vI u1)),(31,(vI p.buses)),(32,(vI u3)),(50,(vB (!((dh iK u1 u2).isSome))))],(LM u0 p u8 u2)⟩ {} [] ?_
    refine bI h (fun hb h=> ?_) (fun hb h=> ?_)
    ·refine ct hb ?_
     refine sg tT ⟨(ae7 p s_ u3 u0 u1),[(Fg p),(Dj u8),AV,(Xi u0),(Xk u0 u1 u2)]⟩ [sG [some .i64] 1 1 u2.length (DL (aA .i64) u2) (FU (aA .i64) u2) [(.int .i64 u1)] [(cI (u0.length:Int))] [] (Fw u0 u1 u2).length (DL (aA .i64) (Fw u0 u1 u2)) (FU (aA .i64) (Fw u0 u1 u2))] {an:=[(4, .map (Fw u0 u1 u2).length (DL (aA .i64) (Fw u0 u1 u2)) (FU (aA .i64) (Fw u0 u1 u2)) [])] } [] ⟨(JA (fun _=>rfl) (fun _ _=>rfl) u2 u1 (u0.length:Int) rfl rfl),trivial⟩ ?_
     refine aO h fun⟨a1,a2⟩ h=> ?_
     refine rg tT ⟨[(2,(vP 55 0)),(jU s_),(5,(vP 58 0)),(ad7 u0),pW,(9,(vI u3)),(10,(vI u1)),(31,(vI p.buses)),(32,(vI u3))],(aiw p u8 u0 u1 u2)⟩ [[(⟨([]:List Int),([]:List Int)⟩:aM)].length=1,aY 1 2 (wF 2 [nS,nS]) (wF 2 [nS,nS]),u0.length=u0.length,_,_,(Gq u0).length=u0.length+[(⟨([]:List Int),([]:List Int)⟩:aM)].length,I8 u0.length [(⟨([]:List Int),([]:List Int)⟩:aM)].length 2 (Ag aM.ev u0) (wF 2 [nS,nS]) (aac u0)] {an:=[(2, .arr [(⟨([]:List Int),([]:List Int)⟩:aM)].length (wF 2 [nS,nS])),(3, .rows (Gq u0).length (aac u0))],fr:=[(2,86),(3,87)] } [] ⟨(rfl),(vK _ _ _),rfl,a1,a2,(List.length_append),(aaY _ _ _ _ _ (by intro i hi j hj;match i,j,hi,hj with|0,0,_,_=>exact⟨rfl,_,_,_,rfl⟩|0,1,_,_=>exact⟨rfl,_,_,_,rfl⟩)),trivial⟩ ?_
     refine sg tT ⟨[(2,(vP 55 0)),(jU s_),(5,(vP 58 0)),(ad7 u0),pW,(9,(vI u3)),(13,(vI (IC u0 u1 u2))),(31,(vI p.buses)),(32,(vI u3))],(aiw p u8 u0 u1 u2)⟩ [qZ [some .i64] 1 1 (Fw u0 u1 u2).length (DL (aA .i64) (Fw u0 u1 u2)) (FU (aA .i64) (Fw u0 u1 u2)) [(.int .i64 u1)] [(.d (.int .i64 0))] (dh iK u1 (Fw u0 u1 u2)).isSome [(cI (IC u0 u1 u2))]] {an:=[(2, .look (dh iK u1 (Fw u0 u1 u2)).isSome [(cI (IC u0 u1 u2))])] } [] ⟨(qN (fun _=>rfl) (fun _ _=>rfl) (Fw u0 u1 u2) u1 0 rfl rfl rfl),trivial⟩ ?_
     refine aO h fun⟨a1,a2,a3⟩ h=> ?_
     refine ri tT ⟨[(2,(vP 55 0)),(jU s_),(5,(vP 58 0)),(ad7 u0),pW,(31,(vI p.buses)),(32,(vI u3))],[(Fg p),(Dj u8),AV,(Xk u0 u1 u2),(87,some (.rows 123 2 (Gq u0).length (Yo u3 u0 u1 u2) none))]⟩ [(0:Int)≤(IC u0 u1 u2)∧(IC u0 u1 u2)<((Gq u0).length:Int),(IC u0 u1 u2).toNat<(Gq u0).length,[u3].length=1,aY 1 1 (wF 1 [(.int .i64 u3)]) (au (aA .i64) [u3]),(OB u0 u1 u2).length=(OB u0 u1 u2).length,(afj u3 u0 u1 u2)*8≤140737488355328,(OB u0 u1 u2).length+[u3].length≤4611686018427387904,(Rk u3 u0 u1 u2).length=(OB u0 u1 u2).length+[u3].length,aY (afj u3 u0 u1 u2) 1 (wE (au (aA .i64) (OB u0 u1 u2)) (OB u0 u1 u2).length (au (aA .i64) [u3])) (adV u3 u0 u1 u2),(0:Int)≤(IC u0 u1 u2)∧(IC u0 u1 u2)<((Gq u0).length:Int),(IC u0 u1 u2).toNat<(Gq u0).length,(Rk u3 u0 u1 u2).length=(Rk u3 u0 u1 u2).length,Wy (Gq u0).length 2 (stV (aac u0) (adw u0 u1 u2) 0 (.row 3 1 (Rk u3 u0 u1 u2).length (adV u3 u0 u1 u2))) (Yo u3 u0 u1 u2),∀i0 j0 c0,((some ((IC u0 u1 u2).toNat,0,CV.own 88 false (OB u0 u1 u2).length)):Option (Nat × Nat × CV))=some (i0,j0,c0)→i0=(IC u0 u1 u2).toNat∧j0=0] {an:=[(6, .take 88),(8, .arr [u3].length (au (aA .i64) [u3])),(9, .arr (Rk u3 u0 u1 u2).length (adV u3 u0 u1 u2)),(12, .rows 0 (Yo u3 u0 u1 u2))],fr:=[(8,89),(9,90)] } [] ⟨a1,(tL a1),(rfl),((by intro i hi j hj;match i,j,hi,hj with|0,0,_,_=>rfl)),rfl,a2,a3,(List.length_append),(dz _ _ _ _),a1,(tL a1),rfl,(JY _ _ _ _ _ _ _ _ rfl (fun j hj=>(match j,hj with|0,_=>rfl|1,_=>rfl))),((fun i0 j0 c0 e=>by cases e;exact⟨rfl,rfl⟩)),trivial⟩ (bG.le (st':=⟨[(2,(vP 55 0)),(jU s_),(5,(vP 58 0)),(afT u3 u0 u1 u2),pW,(31,(vI p.buses)),(32,(vI u3))],(aeS p u8 u3 u0 u1 u2)⟩) ⟨⟨tR,tR,tR,⟨_,rfl,fC.v (jw.one cW)⟩,tR,tR,tR,trivial⟩,(hN 4 ⟨rfl,EW (by simp only [List.length_set,List.length_append,List.length_cons,List.length_nil,List.length_replicate]),trivial⟩)⟩) ?_
     refine ri tT ⟨[(2,(vP 55 0)),(jU s_),(5,(vP 58 0)),(afT u3 u0 u1 u2),pW,(31,(vI p.buses)),(X8 u3)],(aeS p u8 u3 u0 u1 u2)⟩ [] {} [] trivial (bG.fin (st':=⟨[(2,(vP 55 0)),(jU s_),(5,(vP 58 0)),(7,(vO 60 false (ahP u3 u0 u1 u2))),pW,(31,(vI p.buses)),(X8 u3)],[(Fg p),(Dj u8),AV,(60,some (.rows 123 2 (ZK u3 u0 u1 u2).length (Yo u3 u0 u1 u2) none)),(Xk u0 u1 u2)]⟩) (cs:=[]) ⟨[],[(55,55),(57,57),(58,58),(87,60),(61,61)]⟩ [2,3,5,7,8,31,32] (by kernel_rfl) trivial) ?_
     obtain rfl:=oi h
     exact lN
    ·refine cf hb ?_
     refine aP (sg tT ⟨[(2,(vP 55 0)),(jU s_),(5,(vP 58 0)),(Bj u0),pW,(9,(vI u3)),(13,(vI (rf u1 u2))),(31,(vI p.buses)),(32,(vI u3))],(LM u0 p u8 u2)⟩ [qZ [some .i64] 1 1 u2.length (DL (aA .i64) u2) (FU (aA .i64) u2) [(.int .i64 u1)] [(.d (.int .i64 0))] (dh iK u1 u2).isSome (U1 u1 u2)] {an:=[(2, .look (dh iK u1 u2).isSome (U1 u1 u2))] } [] ⟨(qN (fun _=>rfl) (fun _ _=>rfl) u2 u1 0 rfl rfl rfl),trivial⟩ ?_)
     refine aO h fun⟨a1,a2,a3⟩ h=> ?_
     refine ri tT ⟨(ain u0 s_ p u3),[(Fg p),(Dj u8),AV,(60,some (.rows 123 2 u0.length (Z8 u3 u0 u1 u2) none)),(Um u2)]⟩ [(0:Int)≤(rf u1 u2)∧(rf u1 u2)<(u0.length:Int),(rf u1 u2).toNat<u0.length,[u3].length=1,aY 1 1 (wF 1 [(.int .i64 u3)]) (au (aA .i64) [u3]),(LJ u0 u1 u2).length=(LJ u0 u1 u2).length,((LJ u0 u1 u2).length+[u3].length)*8≤140737488355328,(LJ u0 u1 u2).length+[u3].length≤4611686018427387904,(Sl u3 u0 u1 u2).length=(LJ u0 u1 u2).length+[u3].length,aY ((LJ u0 u1 u2).length+[u3].length) 1 (wE (au (aA .i64) (LJ u0 u1 u2)) (LJ u0 u1 u2).length (au (aA .i64) [u3])) (ael u3 u0 u1 u2),(0:Int)≤(rf u1 u2)∧(rf u1 u2)<(u0.length:Int),(rf u1 u2).toNat<u0.length,(Sl u3 u0 u1 u2).length=(Sl u3 u0 u1 u2).length,Wy u0.length 2 (stV (Ag aM.ev u0) ((rf u1 u2).toNat) 0 (.row 3 1 (Sl u3 u0 u1 u2).length (ael u3 u0 u1 u2))) (Z8 u3 u0 u1 u2),∀i0 j0 c0,((some ((rf u1 u2).toNat,0,CV.own 91 false (LJ u0 u1 u2).length)):Option (Nat × Nat × CV))=some (i0,j0,c0)→i0=(rf u1 u2).toNat∧j0=0] {an:=[(6, .take 91),(8, .arr [u3].length (au (aA .i64) [u3])),(9, .arr (Sl u3 u0 u1 u2).length (ael u3 u0 u1 u2)),(12, .rows 0 (Z8 u3 u0 u1 u2))],fr:=[(8,92),(9,93)] } [] ⟨a1,(tL a1),(rfl),((by intro i hi j hj;match i,j,hi,hj with|0,0,_,_=>rfl)),rfl,a2,a3,(List.length_append),(dz _ _ _ _),a1,(tL a1),rfl,(JY _ _ _ _ _ _ _ _ rfl (fun j hj=>(match j,hj with|0,_=>rfl|1,_=>rfl))),((fun i0 j0 c0 e=>by cases e;exact⟨rfl,rfl⟩)),trivial⟩ (bG.le (st':=⟨[(2,(vP 55 0)),(jU s_),(5,(vP 58 0)),(ahA u3 u0 u1 u2),pW,(31,(vI p.buses)),(32,(vI u3))],(agH p u8 u3 u0 u1 u2)⟩) ⟨⟨tR,tR,tR,⟨_,rfl,fC.v (jw.one cW)⟩,tR,tR,tR,trivial⟩,(hN 3 ⟨rfl,EW (by simp only [List.length_set,List.length_append,List.length_cons,List.length_nil,List.length_replicate]),(.refl _)⟩)⟩) ?_
     refine rz tT ⟨[(2,(vP 55 0)),(jU s_),(5,(vP 58 0)),(ahA u3 u0 u1 u2),pW,(31,(vI p.buses)),(X8 u3)],(agH p u8 u3 u0 u1 u2)⟩ {} [] ?_
     obtain rfl:=oi h
     exact lN
  ·refine cf hb2 ?_
   refine aI (fz (ahN s_ u0 p u8 u2) []) ?_
   refine aX ?_
   obtain rfl:=oi h
   exact lB
 ·clear hy
  cases y with
  |brk z=>
   obtain⟨v0,u4⟩:=z
   unfold fZ
   refine⟨_, .refl, ?_⟩
   refine aQ (sz tT ⟨[(jU s_),(5,(vP 58 0)),(Bj v0),pW,(Ni p),(Oh p),(78,(vI 0))],(SI v0 u8 u4)⟩ {} [] ?_)
   refine bE h fun y1 hy h=> ?_
   refine aL [] (qD p s_ u8 u4) qy iB hy (fun s f h=> ?_) ?_
   ·clear hy
    show bJ _ _ _ _ _ _ ((A8 p s_ u8 u4) f) _
    unfold vw at h
    obtain⟨u6,u5⟩:=s
    refine sz tT ⟨[(jU s_),(5,(vP 58 0)),(Bj u6),pW,(Ni p),(Oh p),(78,(vI u5)),(79,(vB (JS p u5)))],(SI u6 u8 u4)⟩ {} [] ?_
    refine aQ ?_
    refine bI h (fun hb4 h=> ?_) (fun hb4 h=> ?_)
    ·refine ct hb4 ?_
     refine aP (aQ (aB (aQ (aO h fun a1 h=> ?_))))
     refine rg tT ⟨[(jU s_),(5,(vP 58 0)),(Bj u6),pW,(14,(vI u5)),(aiE p u5),(Ni p),(Oh p),(78,(vI u5))],(SI u6 u8 u4)⟩ [_] {fr:=[(3,106)] } [106] ⟨a1,trivial⟩ ?_
     refine aQ (aO h fun⟨a1,a2,a3⟩ h=> ?_)
     refine rg tT ⟨[(jU s_),(5,(vP 58 0)),(Bj u6),pW,(14,(vI u5)),(aiE p u5),(Ni p),(Oh p),(78,(vI u5)),(104,(ajh p s_ u5))],(SI u6 u8 u4)⟩ (_::(eqs (at' s_.on_ u5.toNat) 4 ((ajp s_ u5)::(eqs (at' s_.on_ u5.toNat) 3 (eqs (Oa s_ u5) 5 (ag9 p s_ u5)))))) {yb:=[(5,(at' s_.on_ u5.toNat)),(13,(Oa s_ u5))] } [] ⟨a1,(ae ⟨(fun hg=> ⟨(a2 (aZ hg)),trivial⟩),(ae (ae ⟨(fun hg=> ⟨(a3 (aZ hg)),trivial⟩),(ae trivial)⟩))⟩)⟩ ?_
     refine bI h (fun hb3 h=> ?_) (fun hb3 h=> ?_)
     ·refine ct hb3 ?_
      refine aQ (bE h fun u7 hr_3 h=> ?_)
      have q0:=rk [(0,57)] (iH u8 (Ki p u5) hr_3)
      refine rg tT ⟨[(jU s_),(5,(vP 58 0)),(Bj u6),pW,(14,(vI u5)),(16,(vI (rf u7 u4))),(Ni p),(Oh p),(78,(vI u5))],(SI u6 u8 u4)⟩ [_,qZ [some .i64] 1 1 u4.length (DL (aA .i64) u4) (FU (aA .i64) u4) [(.int .i64 u7)] [(.d (.int .i64 0))] (dh iK u7 u4).isSome (U1 u7 u4)] {an:=[(4,cR q0 [57]),(5, .look (dh iK u7 u4).isSome (U1 u7 u4))] } [] ⟨q0,(qN (fun _=>rfl) (fun _ _=>rfl) u4 u7 0 rfl rfl rfl),trivial⟩ ?_
      refine aO h fun⟨a1,a2,a3⟩ h=> ?_
      refine ri tT ⟨(aeP p s_ u6 u5),[(Dj u8),AV,(60,some (.rows 123 2 u6.length (aaK u5 u6 u7 u4) none)),(Um u4)]⟩ [(0:Int)≤(rf u7 u4)∧(rf u7 u4)<(u6.length:Int),(rf u7 u4).toNat<u6.length,[u5].length=1,aY 1 1 (wF 1 [(.int .i64 u5)]) (au (aA .i64) [u5]),(LD u6 u7 u4).length=(LD u6 u7 u4).length,((LD u6 u7 u4).length+[u5].length)*8≤140737488355328,(LD u6 u7 u4).length+[u5].length≤4611686018427387904,(R7 u5 u6 u7 u4).length=(LD u6 u7 u4).length+[u5].length,aY ((LD u6 u7 u4).length+[u5].length) 1 (wE (au (aA .i64) (LD u6 u7 u4)) (LD u6 u7 u4).length (au (aA .i64) [u5])) (acP u5 u6 u7 u4),(0:Int)≤(rf u7 u4)∧(rf u7 u4)<(u6.length:Int),(rf u7 u4).toNat<u6.length,(R7 u5 u6 u7 u4).length=(R7 u5 u6 u7 u4).length,Wy u6.length 2 (stV (Ag aM.ev u6) ((rf u7 u4).toNat) 1 (.row 3 1 (R7 u5 u6 u7 u4).length (acP u5 u6 u7 u4))) (aaK u5 u6 u7 u4),∀i0 j0 c0,((some ((rf u7 u4).toNat,1,CV.own 107 false (LD u6 u7 u4).length)):Option (Nat × Nat × CV))=some (i0,j0,c0)→i0=(rf u7 u4).toNat∧j0=1] {an:=[(6, .take 107),(8, .arr [u5].length (au (aA .i64) [u5])),(9, .arr (R7 u5 u6 u7 u4).length (acP u5 u6 u7 u4)),(12, .rows 0 (aaK u5 u6 u7 u4))],fr:=[(8,108),(9,109)] } [] ⟨a1,(tL a1),(rfl),((by intro i hi j hj;match i,j,hi,hj with|0,0,_,_=>rfl)),rfl,a2,a3,(List.length_append),(dz _ _ _ _),a1,(tL a1),rfl,(JY _ _ _ _ _ _ _ _ rfl (fun j hj=>(match j,hj with|0,_=>rfl|1,_=>rfl))),((fun i0 j0 c0 e=>by cases e;exact⟨rfl,rfl⟩)),trivial⟩ (bG.le (st':=⟨[(jU s_),(5,(vP 58 0)),(afk u5 u6 u7 u4),pW,(Ni p),(Oh p),(78,(vI u5))],(ahu u8 u5 u6 u7 u4)⟩) ⟨⟨tR,tR,⟨_,rfl,fC.v (jw.one cW)⟩,tR,tR,tR,tR,trivial⟩,(hN 2 ⟨rfl,EW (by simp only [List.length_set,List.length_append,List.length_cons,List.length_nil,List.length_replicate]),(.refl _)⟩)⟩) ?_
      refine rz tT ⟨[(jU s_),(5,(vP 58 0)),(afk u5 u6 u7 u4),pW,(Ni p),(Oh p),(78,(uM u5))],(ahu u8 u5 u6 u7 u4)⟩ {} [] ?_
      obtain rfl:=oi h
      exact lN
     ·refine cf hb3 ?_
      refine aP (rz tT ⟨[(jU s_),(5,(vP 58 0)),(Bj u6),pW,(Ni p),(Oh p),(78,(uM u5))],(SI u6 u8 u4)⟩ {} [] ?_)
      obtain rfl:=oi h
      exact lN
    ·refine cf hb4 ?_
     refine aI (fz (aeO u6) []) ?_
     refine aX ?_
     obtain rfl:=oi h
     exact lB
   ·clear hy
    cases y1 with
    |brk z=>
     obtain⟨u9,rfl⟩: ∃q,q=z:=⟨_,rfl⟩
     unfold fZ
     refine⟨_, .refl, ?_⟩
     refine sz tT ⟨[(4,(vO 60 false u9.length))],[(Xi u9)]⟩ {} [] ?_
     refine aI (.trans (fi ⟨[(4,(vD (.sl none 2 u9.length (fun i j=>evD (Ag aM.ev u9 i j)))))],[]⟩ [u9.length=u9.length] [60] ⟨rfl,trivial⟩) (bG.le (st':=⟨[(4,(vD (aC none 2 aM.cell u9)))],[]⟩) ⟨⟨⟨_,rfl,fC.v (jw.one (bL.d (dP.sl (.inr rfl) (fun i _ j hj=>match j,hj with|0,_=> .refl _|1,_=> .refl _))))⟩,trivial⟩,trivial⟩)) ?_
     refine aR ?_
     obtain rfl:=oi h
     exact rl [(sD (aC none 2 aM.cell u9))]
    |ret v=>
     obtain rfl:=oi h
     unfold fZ
     intro e st hn ha hR
     cases e with
     |normal=>exact absurd rfl hn
     |exit id=>exact hR
     |goto l=>exact hR
     |ret=>exact hR
     |panic c=>exact hR
     |outgrown=>exact hR
  |ret v=>
   obtain rfl:=oi h
   unfold fZ
   intro e st hn ha hR
   cases e with
   |normal=>exact absurd rfl hn
   |exit id=>exact hR
   |goto l=>exact hR
   |ret=>exact hR
   |panic c=>exact hR
   |outgrown=>exact hR
def uZ  :((List Bool) × Int)→Exit→St→Prop:=
  fun r=>bn TT [.tmp 4, .tmp 5] (.gL [(sD (aC none 1 ah r.1)),(sI r.2)]) []
section
variable (u1:(List Bool)) (u0:(List aM)) (u2:Int)
abbrev LK:Nat × TV:=(7,(vO 9 true u1.length))
abbrev JO:Nat × TV:=(23,(vD (aC none 2 aM.cell u0)))
abbrev JV:Nat × TV:=(24,(vI (u0.length:Int)))
abbrev Ng:List (Nat × Option Ob):=[(9,some (aG 4 1 ah u1))]
abbrev adQ:St:=⟨[(LK u1),(JO u0),(JV u0),(25,(vI u2))],(Ng u1)⟩
end
def Aq (u0:(List aM)):((List Bool) × Int)→St:=
  fun zz=>match zz with|(u1,u2)=>(adQ u1 u0 u2)
def Av  :(List Bool)→St:=
  fun u0=> ⟨[(LK u0)],(Ng u0)⟩
def sO (u0:(List aM)):(aS ((List Bool) × Int) (Ex (List Bool) ((List Bool) × Int)))→Exit→St→Prop:=
  LQ 0 [] (Aq u0) Av uZ
section
variable (u0:(List aM)) (u1:Int) (u2:(List Bool)) (u3:Int)
abbrev UL:Nat × TV:=(9,(vD (nN [(aC none 1 (aA .i64) ((at' u0 u1.toNat).buses)),(aC none 1 (aA .i64) ((at' u0 u1.toNat).sources))] 0)))
abbrev Vq:Nat × TV:=(30,(vD (aC none 1 (aA .i64) ((at' u0 u1.toNat).buses))))
abbrev U9:Nat × TV:=(31,(vI (((at' u0 u1.toNat).buses).length:Int)))
abbrev ahi:List (Nat × TV):=[(LK u2),(UL u0 u1),(JO u0),(JV u0),(25,(vI u1)),(Vq u0 u1),(U9 u0 u1),(32,(vI u3))]
end
def Az (u0:(List aM)) (u1:Int):((List Bool) × Int)→St:=
  fun zz=>match zz with|(u2,u3)=> ⟨(ahi u0 u1 u2 u3),(Ng u2)⟩
def AA (u0:(List aM)) (u2:Int):(List Bool)→St:=
  fun u1=>(adQ u1 u0 u2)
def IG (u0:(List aM)) (u1:Int):(aS ((List Bool) × Int) (Ex (List Bool) (aS ((List Bool) × Int) (Ex (List Bool) ((List Bool) × Int)))))→Exit→St→Prop:=
  LQ 2 [1] (Az u0 u1) (AA u0 u1) (sO u0)
section
variable (p:ai) (s_:State) (r_:Int) (u2:(List Bool)) (u0:(List aM)) (u1:Int) (u3:Int) (u5:(List Bool))
abbrev aec:St:=⟨[(fo p),(jU s_),(6,(vI r_))],[]⟩
abbrev IL:=(List.replicate p.buses.toNat (false:Bool))
abbrev aat:=(au ah (IL p))
abbrev acj:=(u2.set ((at' ((at' u0 u1.toNat).buses) u3.toNat).toNat) (decide (0<(((at' u0 u1.toNat).sources).length:Int))))
abbrev acG:=(au ah (acj u2 u0 u1 u3))
abbrev ahp:Nat × TV:=(7,(vO 9 true ((acj u2 u0 u1 u3).length)))
abbrev afy:List (Nat × Option Ob):=[(9,some (aG 4 1 ah (acj u2 u0 u1 u3)))]
abbrev YF:Nat × TV:=(4,(vD (aC none 1 ah u5)))
end
theorem IZ (p:ai) (s_:State) {r:((List Bool) × Int)} (h:zS p s_=some r):Fn Try.prog 21 (Iq s_ p) [] (.gL [(sD (aC none 1 ah r.1)),(sI r.2)]) []:=by
 refine fN tT Try.func21 rfl rfl fun B=> ?_
 show bJ _ _ _ _ _ _ (uZ r) _
 unfold zS at h
 refine sz tT (O4 p s_) {fr:=[(0,7),(1,8)] } [7,8] ?_
 refine aQ (aQ (bE h fun r_ hr_ h=> ?_))
 have q0:=gI p s_ hr_
 refine rg tT (aec p s_ r_) [_] {an:=[(2,cA q0 [])] } [] ⟨q0,trivial⟩ ?_
 refine sz tT ⟨[(fo p),(jU s_),(6,(vI r_)),(16,(vB (!decide (r_=0))))],[]⟩ {} [] ?_
 refine bI h (fun hb2 h=> ?_) (fun hb2 h=> ?_)
 ·refine ct hb2 ?_
  refine sz tT (Yv r_) {} [] ?_
  refine aI (bG.le (st':=⟨[(4,(vD Db)),(5,(vI r_))],[]⟩) ⟨⟨⟨_,rfl,fC.v (jw.one (bL.d dP.nil'))⟩,tR,trivial⟩,trivial⟩) ?_
  refine aR ?_
  obtain rfl:=oi h
  exact rl [(sD Db),(sI r_)]
 ·refine cf hb2 ?_
  refine aP (aQ (aO h fun⟨a1,a2,a3⟩ h=> ?_))
  refine rg tT ⟨[(fo p),(jU s_),(7,(vO 9 true ((IL p).length)))],[(9,some (aG 4 1 ah (IL p)))]⟩ [_,(p.buses:Int)=p.buses,_,_,(IL p).length=p.buses.toNat,aY p.buses.toNat 1 (fun _ j=>[(.bool false)].getD j .nilp) (aat p)] {an:=[(2, .arr (IL p).length (aat p))],fr:=[(2,9)] } [] ⟨a1,rfl,a2,a3,(List.length_replicate),(jA _ _ _ _ _ (fun j hj=>(match j,hj with|0,_=>rfl))),trivial⟩ ?_
  refine aQ (aQ (bE h fun u0 hr_1 h=> ?_))
  have q0:=Bf p s_ hr_1
  refine rg tT ⟨[(7,(vO 9 true ((IL p).length))),(JO u0),(JV u0),(25,(vI 0))],[(9,some (aG 4 1 ah (IL p)))]⟩ [_] {an:=[(2,cA q0 [])] } [] ⟨q0,trivial⟩ ?_
  refine bE h fun y1 hy h=> ?_
  refine aL [] (Aq u0) Av uZ hy (fun s f h=> ?_) ?_
  ·clear hy
   show bJ _ _ _ _ _ _ ((sO u0) f) _
   unfold AL at h
   obtain⟨u4,u1⟩:=s
   refine sz tT ⟨[(LK u4),(JO u0),(JV u0),(25,(vI u1)),(26,(vB (decide (u1<(u0.length:Int)))))],(Ng u4)⟩ {} [] ?_
   refine aQ ?_
   refine bI h (fun hb1 h=> ?_) (fun hb1 h=> ?_)
   ·refine ct hb1 ?_
    refine aP (aQ (aB (aQ (aO h fun a1 h=> ?_))))
    refine rg tT ⟨[(LK u4),(9,(vP 13 0)),(JO u0),(JV u0),(25,(vI u1))],[(9,some (aG 4 1 ah u4)),(13,some (.cells 123 [(.d (aC none 1 (aA .i64) ((at' u0 u1.toNat).buses))),(.d (aC none 1 (aA .i64) ((at' u0 u1.toNat).sources)))]))]⟩ [_] {fr:=[(2,13)] } [] ⟨a1,trivial⟩ ?_
    refine sz tT ⟨[(LK u4),(UL u0 u1),(JO u0),(JV u0),(25,(vI u1)),(Vq u0 u1),(U9 u0 u1),(32,(vI 0))],(Ng u4)⟩ {} [13] ?_
    refine bE h fun y hy h=> ?_
    refine aL [1] (Az u0 u1) (AA u0 u1) (sO u0) hy (fun s f h=> ?_) ?_
    ·clear hy
     show bJ _ _ _ _ _ _ ((IG u0 u1) f) _
     unfold Ao at h
     obtain⟨u2,u3⟩:=s
     refine sz tT ⟨[(LK u2),(UL u0 u1),(JO u0),(JV u0),(25,(vI u1)),(Vq u0 u1),(U9 u0 u1),(32,(vI u3)),(33,(vB (decide (u3<(((at' u0 u1.toNat).buses).length:Int)))))],(Ng u2)⟩ {} [] ?_
     refine aQ ?_
     refine bI h (fun hb h=> ?_) (fun hb h=> ?_)
     ·refine ct hb ?_
      refine aP (aQ (aB (aQ (aO h fun a1 h=> ?_))))
      refine rg tT ⟨[(LK u2),(UL u0 u1),(11,(vI (at' ((at' u0 u1.toNat).buses) u3.toNat))),(JO u0),(JV u0),(25,(vI u1)),(Vq u0 u1),(U9 u0 u1),(32,(vI u3))],(Ng u2)⟩ [_] {} [] ⟨a1,trivial⟩ ?_
      refine aO h fun a1 h=> ?_
      refine ri tT ⟨(ahi u0 u1 u2 u3),[(9,some (.arr 4 1 u2.length (acG u2 u0 u1 u3)))]⟩ [_,_,aY u2.length 1 (nP (au ah u2) ((at' ((at' u0 u1.toNat).buses) u3.toNat).toNat) 0 [(.bool (decide (0<(((at' u0 u1.toNat).sources).length:Int))))]) (acG u2 u0 u1 u3)] {an:=[(7, .arr 0 (acG u2 u0 u1 u3))] } [] ⟨a1,(tL a1),(fU _ _ _ _ _ _ _ _ rfl (fun j hj=>(match j,hj with|0,_=>rfl))),trivial⟩ (bG.le (st':=⟨[(ahp u2 u0 u1 u3),(UL u0 u1),(JO u0),(JV u0),(25,(vI u1)),(Vq u0 u1),(U9 u0 u1),(32,(vI u3))],(afy u2 u0 u1 u3)⟩) ⟨⟨⟨_,rfl,fC.v (jw.one cW)⟩,tR,tR,tR,tR,tR,tR,tR,trivial⟩,⟨rfl,oW,trivial⟩⟩) ?_
      refine rz tT ⟨[(ahp u2 u0 u1 u3),(UL u0 u1),(JO u0),(JV u0),(25,(vI u1)),(Vq u0 u1),(U9 u0 u1),(X8 u3)],(afy u2 u0 u1 u3)⟩ {} [] ?_
      obtain rfl:=oi h
      exact lN
     ·refine cf hb ?_
      refine aI (fz (adQ u2 u0 u1) []) ?_
      refine aX ?_
      obtain rfl:=oi h
      exact lB
    ·clear hy
     cases y with
     |brk z=>
      obtain⟨u6,rfl⟩: ∃q,q=z:=⟨_,rfl⟩
      unfold fZ
      refine⟨_, .refl, ?_⟩
      refine rz tT ⟨[(LK u6),(JO u0),(JV u0),(25,(uM u1))],(Ng u6)⟩ {} [] ?_
      obtain rfl:=oi h
      exact lN
     |ret v=>
      obtain rfl:=oi h
      unfold fZ
      intro e st hn ha hR
      cases e with
      |normal=>exact absurd rfl hn
      |exit id=>simp only [vk (b:=1) ha rfl,cond_false];exact hR
      |goto l=>exact hR
      |ret=>exact hR
      |panic c=>exact hR
      |outgrown=>exact hR
   ·refine cf hb1 ?_
    refine aI (fz ⟨[(LK u4)],(Ng u4)⟩ []) ?_
    refine aX ?_
    obtain rfl:=oi h
    exact lB
  ·clear hy
   cases y1 with
   |brk z=>
    obtain⟨u5,rfl⟩: ∃q,q=z:=⟨_,rfl⟩
    unfold fZ
    refine⟨_, .refl, ?_⟩
    refine sg tT ⟨[(4,(vD (aC (some true) 1 ah u5))),(5,(vI 0))],[]⟩ [u5.length=u5.length] {} [9] ⟨rfl,trivial⟩ ?_
    refine aI (bG.le (st':=⟨[(YF u5),(5,(vI 0))],[]⟩) ⟨⟨⟨_,rfl,fC.v (jw.one (bL.d dP.l9))⟩,tR,trivial⟩,trivial⟩) ?_
    refine aR ?_
    obtain rfl:=oi h
    exact rl [(sD (aC none 1 ah u5)),(sI 0)]
   |ret v=>
    obtain rfl:=oi h
    unfold fZ
    intro e st hn ha hR
    cases e with
    |normal=>exact absurd rfl hn
    |exit id=>exact hR
    |goto l=>exact hR
    |ret=>exact hR
    |panic c=>exact hR
    |outgrown=>exact hR
def xX  :((List aN) × Int)→Exit→St→Prop:=
  fun r=>bn TT [.tmp 4, .tmp 5] (.gL [(sD (aC none 2 aN.cell r.1)),(sI r.2)]) []
section
variable (r_:((List Bool) × Int)) (u0:(List aN)) (p:ai)
abbrev xV:Nat × TV:=(6,(vD (aC none 1 ah r_.1)))
abbrev Fb:Nat × TV:=(8,(vO 23 false u0.length))
abbrev A7:Nat × TV:=(24,(vD (k4 p)))
abbrev AQ:Nat × TV:=(25,(vI (p.racks.length:Int)))
abbrev Zx:Nat × Option Ob:=(23,some (aG 206 2 aN.cell u0))
abbrev XD:List (Nat × Option Ob):=[(Zx u0)]
end
def Bp (p:ai) (r_:((List Bool) × Int)):((List aN) × Int)→St:=
  fun zz=>match zz with|(u0,u1)=> ⟨[(xV r_),(Fb u0),(A7 p),(AQ p),(26,(vI u1))],(XD u0)⟩
def Cm  :(List aN)→St:=
  fun u0=> ⟨[(Fb u0)],(XD u0)⟩
def J7 (p:ai) (r_:((List Bool) × Int)):(aS ((List aN) × Int) (Ex (List aN) ((List aN) × Int)))→Exit→St→Prop:=
  LQ 0 [] (Bp p r_) Cm xX
section
variable (p:ai) (u0:Int) (u1:(List aN)) (r_:((List Bool) × Int))
abbrev Zr:List (Nat × Option Ob):=[(18,some (k97 p))]
abbrev Us:=((at' p.racks u0.toNat).feeds)
abbrev KU:=((Us p u0).e0)
abbrev Il:=((Us p u0).e1)
abbrev ahf:TV:=(vD (nN [(.int .i64 (KU p u0)),(.int .i64 (Il p u0)),(.int .i64 ((at' p.racks u0.toNat).power)),(.int .i64 ((at' p.racks u0.toNat).paths))] 0))
abbrev afm:Nat × TV:=(10,(ahf p u0))
abbrev Z4:List (Nat × Option Ob):=[(Zx u1),(33,some (.cells 206 [(cB false),(cB false)]))]
abbrev Wh:List CV:=[(cI (KU p u0)),(cI (Il p u0))]
abbrev Pw:Nat × TV:=(31,(.v (.agg (Wh p u0))))
abbrev ahJ:List (Nat × TV):=[(xV r_),(Fb u1),(11,(vP 33 0)),(A7 p),(AQ p),(26,(vI u0)),(Pw p u0),(32,(vI 0))]
abbrev XU:=(decide (0≤(KU p u0)))
abbrev aaC:=(bif (XU p u0)then(at' r_.1 ((KU p u0).toNat))else false)
abbrev aa6:List (Nat × Option Ob):=[(Zx u1),(33,some (.cells 206 [(cB (aaC p u0 r_)),(cB false)]))]
abbrev agT:List (Nat × TV):=[(xV r_),(Fb u1),(11,(vP 33 0)),(A7 p),(AQ p),(26,(vI u0)),(Pw p u0),(32,(vI 1))]
abbrev XB:=(decide (0≤(Il p u0)))
abbrev ab3:=(bif (XB p u0)then(at' r_.1 ((Il p u0).toNat))else false)
abbrev acO:List (Nat × Option Ob):=[(Zx u1),(33,some (.cells 206 [(cB (aaC p u0 r_)),(cB (ab3 p u0 r_))]))]
abbrev VW:=(⟨(aaC p u0 r_),(ab3 p u0 r_)⟩:aN)
abbrev YI:=(u1++[(VW p u0 r_)])
abbrev ag8:=((YI p u0 u1 r_).length)
abbrev afw:Nat × TV:=(8,(vO 35 false (ag8 p u0 u1 r_)))
abbrev afV:Ob:=(aG 206 2 aN.cell (YI p u0 u1 r_))
abbrev afz:List (Nat × Option Ob):=[(35,some (afV p u0 u1 r_))]
abbrev acS:=(au aN.cell [(VW p u0 r_)])
abbrev ajO:=(au aN.cell (YI p u0 u1 r_))
end
theorem BJ (p:ai) (s_:State) {r:((List aN) × Int)} (h:wM p s_=some r):Fn Try.prog 104 (Iq s_ p) [] (.gL [(sD (aC none 2 aN.cell r.1)),(sI r.2)]) []:=by
 refine fN tT Try.func104 rfl rfl fun B=> ?_
 show bJ _ _ _ _ _ _ (xX r) _
 unfold wM at h
 refine sz tT ⟨[(2,(vP 18 0)),(jU s_)],(Zr p)⟩ {fr:=[(0,18),(1,19)] } [19] ?_
 refine aQ (bE h fun r_ hr_ h=> ?_)
 have q0:=IZ p s_ hr_
 refine rg tT ⟨[(2,(vP 18 0)),(xV r_),(7,(vI r_.2))],(Zr p)⟩ [_] {an:=[(2,cA q0 [])] } [] ⟨q0,trivial⟩ ?_
 refine aQ (sz tT ⟨[(2,(vP 18 0)),(xV r_),(7,(vI r_.2)),(21,(vB (!decide (r_.2=0))))],(Zr p)⟩ {} [] ?_)
 refine bI h (fun hb1 h=> ?_) (fun hb1 h=> ?_)
 ·refine ct hb1 ?_
  refine sz tT ⟨[(4,(vD nS)),(5,(vI r_.2))],[]⟩ {} [] ?_
  refine aI (bG.le (st':=⟨[(4,(vD (aC none 2 aN.cell ([]:List aN)))),(5,(vI r_.2))],[]⟩) ⟨⟨⟨_,rfl,fC.v (jw.one (bL.d dP.nil'))⟩,tR,trivial⟩,trivial⟩) ?_
  refine aR ?_
  obtain rfl:=oi h
  exact rl [(sD (aC none 2 aN.cell ([]:List aN))),(sI r_.2)]
 ·refine cf hb1 ?_
  refine aP (sz tT ⟨[(2,(vP 18 0)),(xV r_),(8,(vD nS))],(Zr p)⟩ {} [] ?_)
  refine aQ (sz tT ⟨[(xV r_),(8,(vD nS)),(A7 p),(AQ p),(26,(vI 0))],[]⟩ {} [] ?_)
  refine bE h fun y hy h=> ?_
  refine aI (.trans (bG.Ci (t:=8) (b:=36) (esz0:=0) (el0:=fun _ _=> .nilp) (E:=206) (esz:=2) (el:=au aN.cell ([]:List aN)) (by kernel_rfl) (by kernel_rfl)) (.trans (bG.fin (st':=⟨[(xV r_),(8,(vO 23 false 0)),(A7 p),(AQ p),(26,(vI 0))],[(23,some (.arr 206 2 0 (au aN.cell ([]:List aN))))]⟩) (cs:=[]) ⟨[],[(36,23)]⟩ [6,8,24,25,26] (by kernel_rfl) trivial) (bG.le (st':=⟨[(xV r_),(8,(vO 23 false (([]:List aN).length))),(A7 p),(AQ p),(26,(vI 0))],[(23,some (aG 206 2 aN.cell ([]:List aN)))]⟩) ⟨⟨tR,⟨_,rfl,fC.v (jw.one cW)⟩,tR,tR,tR,trivial⟩,⟨rfl,oW,trivial⟩⟩))) ?_
  refine aL [] (Bp p r_) Cm xX hy (fun s f h=> ?_) ?_
  ·clear hy
   show bJ _ _ _ _ _ _ ((J7 p r_) f) _
   unfold BD at h
   obtain⟨u1,u0⟩:=s
   refine sz tT ⟨[(xV r_),(Fb u1),(A7 p),(AQ p),(26,(vI u0)),(27,(vB (decide (u0<(p.racks.length:Int)))))],(XD u1)⟩ {} [] ?_
   refine aQ ?_
   refine bI h (fun hb h=> ?_) (fun hb h=> ?_)
   ·refine ct hb ?_
    refine aP (aQ (aB (aQ (aO h fun a1 h=> ?_))))
    refine rg tT ⟨[(xV r_),(Fb u1),(afm p u0),(A7 p),(AQ p),(26,(vI u0))],(XD u1)⟩ [_] {fr:=[(2,32)] } [32] ⟨a1,trivial⟩ ?_
    refine sz tT ⟨[(xV r_),(Fb u1),(afm p u0),(11,(vP 33 0)),(A7 p),(AQ p),(26,(vI u0))],(Z4 u1)⟩ {fr:=[(0,33)] } [] ?_
    refine aQ (sz tT ⟨(ahJ p u0 u1 r_),(Z4 u1)⟩ {} [] ?_)
    refine aB (MW 12 (jg 11 (sz tT ⟨[(xV r_),(Fb u1),(11,(vP 33 0)),(A7 p),(AQ p),(26,(vI u0)),(Pw p u0),(32,(vI 0)),(33,(vB true))],(Z4 u1)⟩ {} [] ?_)))
    refine aQ (ck (aP (aQ (aB (sg tT ⟨[(xV r_),(Fb u1),(11,(vP 33 0)),(12,(vI 0)),(13,(vI (KU p u0))),(A7 p),(AQ p),(26,(vI u0)),(Pw p u0),(32,(vI 0))],(Z4 u1)⟩ [(0:Int)≤0∧(0:Int)<(2:Nat),0*1+1≤(Wh p u0).length,((Wh p u0).drop (0*1)).take 1=[(.int .i64 (KU p u0))].map .d] {an:=[(1, .vals [(.int .i64 (KU p u0))])] } [] ⟨((by decide)),(Nat.le_of_ble_eq_true rfl),(rfl),trivial⟩ ?_)))))
    refine aO h fun a1 h=> ?_
    refine rg tT ⟨(ahJ p u0 u1 r_),(aa6 p u0 u1 r_)⟩ (eqs (XU p u0) 3 ((gP (iD [(3,(XU p u0))]) [(3,true)]→All [(0:Int)≤(Us p u0).e0∧(Us p u0).e0<(r_.1.length:Int)])::(eqs (XU p u0) 2 [(0:Int)≤0∧(0:Int)<(2:Nat)]))) {yb:=[(3,(XU p u0))] } [] (ae ⟨(fun hg=> ⟨(a1 (aZ hg)),trivial⟩),(ae ⟨((by decide)),trivial⟩)⟩) ?_
    refine rz tT ⟨(agT p u0 u1 r_),(aa6 p u0 u1 r_)⟩ {} [] ?_
    refine jg 10 (sz tT ⟨[(xV r_),(Fb u1),(11,(vP 33 0)),(A7 p),(AQ p),(26,(vI u0)),(Pw p u0),(32,(vI 1)),(33,(vB true))],(aa6 p u0 u1 r_)⟩ {} [] ?_)
    refine aQ (ck (aP (aQ (aB (sg tT ⟨[(xV r_),(Fb u1),(11,(vP 33 0)),(12,(vI 1)),(13,(vI (Il p u0))),(A7 p),(AQ p),(26,(vI u0)),(Pw p u0),(32,(vI 1))],(aa6 p u0 u1 r_)⟩ [(0:Int)≤1∧(1:Int)<(2:Nat),1*1+1≤(Wh p u0).length,((Wh p u0).drop (1*1)).take 1=[(.int .i64 (Il p u0))].map .d] {an:=[(1, .vals [(.int .i64 (Il p u0))])] } [] ⟨((by decide)),(Nat.le_of_ble_eq_true rfl),(rfl),trivial⟩ ?_)))))
    refine aO h fun a1 h=> ?_
    refine rg tT ⟨(agT p u0 u1 r_),(acO p u0 u1 r_)⟩ (eqs (XB p u0) 3 ((gP (iD [(3,(XB p u0))]) [(3,true)]→All [(0:Int)≤(Us p u0).e1∧(Us p u0).e1<(r_.1.length:Int)])::(eqs (XB p u0) 2 [(0:Int)≤1∧(1:Int)<(2:Nat)]))) {yb:=[(3,(XB p u0))] } [] (ae ⟨(fun hg=> ⟨(a1 (aZ hg)),trivial⟩),(ae ⟨((by decide)),trivial⟩)⟩) ?_
    refine rz tT ⟨[(xV r_),(Fb u1),(11,(vP 33 0)),(A7 p),(AQ p),(26,(vI u0)),(Pw p u0),(32,(vI 2))],(acO p u0 u1 r_)⟩ {} [] ?_
    refine jg 9 (sz tT ⟨[(xV r_),(Fb u1),(11,(vP 33 0)),(A7 p),(AQ p),(26,(vI u0)),(Pw p u0),(32,(vI 2)),(33,(vB false))],(acO p u0 u1 r_)⟩ {} [] ?_)
    refine aQ (cn (aX (aO h fun⟨a1,a2⟩ h=> ?_)))
    refine rg tT ⟨[(xV r_),(afw p u0 u1 r_),(A7 p),(AQ p),(26,(vI u0))],(afz p u0 u1 r_)⟩ [[(VW p u0 r_)].length=1,aY 1 2 (wF 2 [(.bool (aaC p u0 r_)),(.bool (ab3 p u0 r_))]) (acS p u0 r_),u1.length=u1.length,_,_,(YI p u0 u1 r_).length=u1.length+[(VW p u0 r_)].length,aY (u1.length+[(VW p u0 r_)].length) 2 (wE (au aN.cell u1) u1.length (acS p u0 r_)) (ajO p u0 u1 r_)] {an:=[(2, .arr [(VW p u0 r_)].length (acS p u0 r_)),(3, .arr (YI p u0 u1 r_).length (ajO p u0 u1 r_))],fr:=[(2,34),(3,35)] } [] ⟨(rfl),((by intro i hi j hj;match i,j,hi,hj with|0,0,_,_=>rfl|0,1,_,_=>rfl)),rfl,a1,a2,(List.length_append),(dz _ _ _ _),trivial⟩ ?_
    refine ri tT ⟨[(xV r_),(afw p u0 u1 r_),(A7 p),(AQ p),(26,(uM u0))],(afz p u0 u1 r_)⟩ [] {} [] trivial (bG.fin (st':=⟨[(xV r_),(8,(vO 23 false (ag8 p u0 u1 r_))),(A7 p),(AQ p),(26,(uM u0))],[(23,some (afV p u0 u1 r_))]⟩) (cs:=[]) ⟨[],[(35,23)]⟩ [6,8,24,25,26] (by kernel_rfl) trivial) ?_
    obtain rfl:=oi h
    exact lN
   ·refine cf hb ?_
    refine aI (fz ⟨[(Fb u1)],(XD u1)⟩ []) ?_
    refine aX ?_
    obtain rfl:=oi h
    exact lB
  ·clear hy
   cases y with
   |brk z=>
    obtain⟨u2,rfl⟩: ∃q,q=z:=⟨_,rfl⟩
    unfold fZ
    refine⟨_, .refl, ?_⟩
    refine sg tT ⟨[(4,(vD (aC none 2 aN.cell u2))),(5,(vI 0))],[]⟩ [u2.length=u2.length] {} [23] ⟨rfl,trivial⟩ ?_
    refine aR ?_
    obtain rfl:=oi h
    exact rl [(sD (aC none 2 aN.cell u2)),(sI 0)]
   |ret v=>
    obtain rfl:=oi h
    unfold fZ
    intro e st hn ha hR
    cases e with
    |normal=>exact absurd rfl hn
    |exit id=>exact hR
    |goto l=>exact hR
    |ret=>exact hR
    |panic c=>exact hR
    |outgrown=>exact hR
def Gn  :Bool→Exit→St→Prop:=
  fun r=>bn TT [.tmp 2] (vB r) []
theorem wL (x:aN) {r:Bool} (h:pV x=some r):Fn Try.prog 105 [(.agg [(cB x.e0),(cB x.e1)])] [] (vB r) []:=by
 refine fN tT Try.func105 rfl rfl fun B=> ?_
 show bJ _ _ _ _ _ _ (Gn r) _
 unfold pV at h
 refine sz tT ⟨[(1,(vD (nN [(.bool x.e0),(.bool x.e1)] 0)))],[]⟩ {fr:=[(0,1)] } [1] ?_
 refine sg tT ⟨[(2,(vB (bif x.e0 then true else x.e1)))],[]⟩ (((0:Int)≤0∧(0:Int)<(2:Nat))::(x.e0=x.e0)::(gP (iD [(2,x.e0)]) [(2,false)]→All [(0:Int)≤1∧(1:Int)<(2:Nat)])::(eqs x.e0 2 [])) {yb:=[(2,x.e0)] } [] ⟨((by decide)),rfl,(fun hg=> ⟨((by decide)),trivial⟩),(ae trivial)⟩ ?_
 refine aR ?_
 obtain rfl:=oi h
 exact rl [(sB (bif x.e0 then true else x.e1))]
def BH  :(ai × State)→Exit→St→Prop:=
  fun r=>bn TT [.cell 0 26, .cell 1 29] (.gL [(.agg [(cI r.1.buses),(.own 0 true r.1.sources.length),(.own 1 true r.1.links.length),(.own 2 true r.1.racks.length)]),(.agg [(.own 3 true r.2.closed.length),(.own 4 true r.2.locked.length),(.own 5 true r.2.badLink.length),(.own 6 true r.2.on_.length),(.own 7 true r.2.badSource.length),(.own 8 true r.2.earthed.length),(.own 9 true r.2.badBus.length)])]) [(0,some (aG 126 5 Source.cell r.1.sources)),(1,some (aG 53 6 Link.cell r.1.links)),(2,some (aG 166 4 aJ.cell r.1.racks)),(3,some (aG 4 1 ah r.2.closed)),(4,some (aG 4 1 ah r.2.locked)),(5,some (aG 4 1 ah r.2.badLink)),(6,some (aG 4 1 ah r.2.on_)),(7,some (aG 4 1 ah r.2.badSource)),(8,some (aG 4 1 ah r.2.earthed)),(9,some (aG 4 1 ah r.2.badBus)),(10,none),(11,none)]
abbrev ac2:Nat × Option Ob:=(21,some (.cells 26 [(cI 0),(.d nS),(.d nS),(.d nS)]))
abbrev acV:Nat × Option Ob:=(23,some (aG 126 5 Source.cell [(⟨0,1,500,0,20⟩:Source)]))
abbrev Y9:List DV:=[(.int .i64 0),(.int .i64 1),(.int .i64 3),(.int .i64 400),(.int .i64 10),(aC (some true) 2 dU.cell [(⟨1000,400⟩:dU),(⟨10000,100⟩:dU)]),(.int .i64 1),(.int .i64 2),(.int .i64 3),(.int .i64 400),(.int .i64 10),(aC (some true) 2 dU.cell [(⟨1000,50⟩:dU)])]
abbrev ah1:Ob:=(aG 166 4 aJ.cell [(⟨(⟨2,(-1)⟩:bB),100,1⟩:aJ),(⟨(⟨1,2⟩:bB),100,0⟩:aJ)])
abbrev adn:Nat × Option Ob:=(27,some ah1)
abbrev agd:Ob:=(.cells 26 [(cI 3),(.own 23 true ([(⟨0,1,500,0,20⟩:Source)].length)),(.own 26 true ([(⟨0,1,3,400,10,[(⟨1000,400⟩:dU),(⟨10000,100⟩:dU)]⟩:Link),(⟨1,2,3,400,10,[(⟨1000,50⟩:dU)]⟩:Link)].length)),(.own 27 true ([(⟨(⟨2,(-1)⟩:bB),100,1⟩:aJ),(⟨(⟨1,2⟩:bB),100,0⟩:aJ)].length))])
abbrev ah5:Nat × Option Ob:=(28,some agd)
abbrev ajl:Ob:=(aG 53 6 Link.cell [(⟨0,1,3,400,10,[(⟨1000,400⟩:dU),(⟨10000,100⟩:dU)]⟩:Link),(⟨1,2,3,400,10,[(⟨1000,50⟩:dU)]⟩:Link)])
abbrev ags:Nat × Option Ob:=(26,some ajl)
abbrev aak:Ob:=(aG 4 1 ah (List.replicate 2 (false:Bool)))
abbrev ZN:Ob:=(aG 4 1 ah (List.replicate 3 (false:Bool)))
abbrev afr:List CV:=[(cI 3),(.own 0 true ([(⟨0,1,500,0,20⟩:Source)].length)),(.own 1 true ([(⟨0,1,3,400,10,[(⟨1000,400⟩:dU),(⟨10000,100⟩:dU)]⟩:Link),(⟨1,2,3,400,10,[(⟨1000,50⟩:dU)]⟩:Link)].length)),(.own 2 true ([(⟨(⟨2,(-1)⟩:bB),100,1⟩:aJ),(⟨(⟨1,2⟩:bB),100,0⟩:aJ)].length))]
abbrev afh:List CV:=[(.own 3 true ([true,true].length)),(.own 4 true ((List.replicate 2 (false:Bool)).length)),(.own 5 true ((List.replicate 2 (false:Bool)).length)),(.own 6 true ([true].length)),(.own 7 true ((List.replicate 1 (false:Bool)).length)),(.own 8 true ((List.replicate 3 (false:Bool)).length)),(.own 9 true ((List.replicate 3 (false:Bool)).length))]
theorem AU  {r:(ai × State)} (h:sZ=some r):Fn Try.prog 59 [] [] (.gL [(.agg [(cI r.1.buses),(.own 0 true r.1.sources.length),(.own 1 true r.1.links.length),(.own 2 true r.1.racks.length)]),(.agg [(.own 3 true r.2.closed.length),(.own 4 true r.2.locked.length),(.own 5 true r.2.badLink.length),(.own 6 true r.2.on_.length),(.own 7 true r.2.badSource.length),(.own 8 true r.2.earthed.length),(.own 9 true r.2.badBus.length)])]) [(0,some (aG 126 5 Source.cell r.1.sources)),(1,some (aG 53 6 Link.cell r.1.links)),(2,some (aG 166 4 aJ.cell r.1.racks)),(3,some (aG 4 1 ah r.2.closed)),(4,some (aG 4 1 ah r.2.locked)),(5,some (aG 4 1 ah r.2.badLink)),(6,some (aG 4 1 ah r.2.on_)),(7,some (aG 4 1 ah r.2.badSource)),(8,some (aG 4 1 ah r.2.earthed)),(9,some (aG 4 1 ah r.2.badBus)),(10,none),(11,none)]:=by
 refine fN tT Try.func59 rfl rfl fun B=> ?_
 show bJ _ _ _ _ _ _ (BH r) _
 unfold sZ at h
 refine sz tT ⟨[(0,(vP 21 0)),(1,(vP 22 0))],[ac2,JK]⟩ {fr:=[(0,21),(1,22)] } [] ?_
 refine si tT ⟨[(0,(vP 21 0)),(1,(vP 22 0)),(2,(vP 28 0))],[ac2,JK,acV,(26,some (.arr 53 6 [(⟨0,1,3,400,10,[(⟨1000,400⟩:dU),(⟨10000,100⟩:dU)]⟩:Link),(⟨1,2,3,400,10,[(⟨1000,50⟩:dU)]⟩:Link)].length (wF 6 Y9))),adn,ah5]⟩ [[(⟨0,1,500,0,20⟩:Source)].length=1,aY 1 5 (wF 5 [(.int .i64 0),(.int .i64 1),(.int .i64 500),(.int .i64 0),(.int .i64 20)]) (au Source.cell [(⟨0,1,500,0,20⟩:Source)]),[(⟨1000,400⟩:dU),(⟨10000,100⟩:dU)].length=2,aY 2 2 (wF 2 [(.int .i64 1000),(.int .i64 400),(.int .i64 10000),(.int .i64 100)]) (au dU.cell [(⟨1000,400⟩:dU),(⟨10000,100⟩:dU)]),[(⟨1000,50⟩:dU)].length=1,aY 1 2 (wF 2 [(.int .i64 1000),(.int .i64 50)]) (au dU.cell [(⟨1000,50⟩:dU)]),[(⟨0,1,3,400,10,[(⟨1000,400⟩:dU),(⟨10000,100⟩:dU)]⟩:Link),(⟨1,2,3,400,10,[(⟨1000,50⟩:dU)]⟩:Link)].length=2,aY 2 6 (wF 6 Y9) (wF 6 Y9),[(⟨(⟨2,(-1)⟩:bB),100,1⟩:aJ),(⟨(⟨1,2⟩:bB),100,0⟩:aJ)].length=2,aY 2 4 (wF 4 [(.int .i64 2),(.int .i64 (-1)),(.int .i64 100),(.int .i64 1),(.int .i64 1),(.int .i64 2),(.int .i64 100),(.int .i64 0)]) (au aJ.cell [(⟨(⟨2,(-1)⟩:bB),100,1⟩:aJ),(⟨(⟨1,2⟩:bB),100,0⟩:aJ)])] {an:=[(1, .arr [(⟨0,1,500,0,20⟩:Source)].length (au Source.cell [(⟨0,1,500,0,20⟩:Source)])),(4, .frz [(⟨1000,400⟩:dU),(⟨10000,100⟩:dU)].length (au dU.cell [(⟨1000,400⟩:dU),(⟨10000,100⟩:dU)])),(7, .frz [(⟨1000,50⟩:dU)].length (au dU.cell [(⟨1000,50⟩:dU)])),(9, .arr [(⟨0,1,3,400,10,[(⟨1000,400⟩:dU),(⟨10000,100⟩:dU)]⟩:Link),(⟨1,2,3,400,10,[(⟨1000,50⟩:dU)]⟩:Link)].length (wF 6 Y9)),(14, .arr [(⟨(⟨2,(-1)⟩:bB),100,1⟩:aJ),(⟨(⟨1,2⟩:bB),100,0⟩:aJ)].length (au aJ.cell [(⟨(⟨2,(-1)⟩:bB),100,1⟩:aJ),(⟨(⟨1,2⟩:bB),100,0⟩:aJ)]))],fr:=[(1,23),(9,26),(14,27),(16,28)] } [] ⟨(rfl),((by intro i hi j hj;match i,j,hi,hj with|0,0,_,_=>rfl|0,1,_,_=>rfl|0,2,_,_=>rfl|0,3,_,_=>rfl|0,4,_,_=>rfl)),(rfl),((by intro i hi j hj;match i,j,hi,hj with|0,0,_,_=>rfl|0,1,_,_=>rfl|1,0,_,_=>rfl|1,1,_,_=>rfl)),(rfl),((by intro i hi j hj;match i,j,hi,hj with|0,0,_,_=>rfl|0,1,_,_=>rfl)),(rfl),(vK _ _ _),(rfl),((by intro i hi j hj;match i,j,hi,hj with|0,0,_,_=>rfl|0,1,_,_=>rfl|0,2,_,_=>rfl|0,3,_,_=>rfl|1,0,_,_=>rfl|1,1,_,_=>rfl|1,2,_,_=>rfl|1,3,_,_=>rfl)),trivial⟩ (bG.le (st':=⟨[(0,(vP 21 0)),(1,(vP 22 0)),(2,(vP 28 0))],[ac2,JK,acV,ags,adn,ah5]⟩) ⟨⟨tR,tR,tR,trivial⟩,(hN 3 ⟨rfl,TA (by intro i hi j hj;match i,j,hi,hj with|0,0,_,_=>exact .refl _|0,1,_,_=>exact .refl _|0,2,_,_=>exact .refl _|0,3,_,_=>exact .refl _|0,4,_,_=>exact .refl _|0,5,_,_=>exact dP.l9|1,0,_,_=>exact .refl _|1,1,_,_=>exact .refl _|1,2,_,_=>exact .refl _|1,3,_,_=>exact .refl _|1,4,_,_=>exact .refl _|1,5,_,_=>exact dP.l9),(.refl _)⟩)⟩) ?_
 refine aQ (aO h fun⟨a1,a2,a3,a4,a5,a6,a7,a8,a9⟩ h=> ?_)
 refine dg tT mX ⟨[(0,(vP 21 0)),(1,(vP 22 0))],[(21,some agd),(22,some (.cells 29 [(.own 29 true ([true,true].length)),(.own 30 true ((List.replicate 2 (false:Bool)).length)),(.own 31 true ((List.replicate 2 (false:Bool)).length)),(.own 32 true ([true].length)),(.own 33 true ((List.replicate 1 (false:Bool)).length)),(.own 34 true ((List.replicate 3 (false:Bool)).length)),(.own 35 true ((List.replicate 3 (false:Bool)).length))])),acV,ags,adn,(29,some (aG 4 1 ah [true,true])),(30,some aak),(31,some aak),(32,some (aG 4 1 ah [true])),(33,some (aG 4 1 ah (List.replicate 1 (false:Bool)))),(34,some ZN),(35,some ZN)]⟩ [[true,true].length=2,aY 2 1 (wF 1 [(.bool true),(.bool true)]) (au ah [true,true]),_,(2:Int)=2,_,_,(List.replicate 2 (false:Bool)).length=2,aY 2 1 (fun _ j=>[(.bool false)].getD j .nilp) (au ah (List.replicate 2 (false:Bool))),_,(2:Int)=2,_,_,(List.replicate 2 (false:Bool)).length=2,aY 2 1 (fun _ j=>[(.bool false)].getD j .nilp) (au ah (List.replicate 2 (false:Bool))),[true].length=1,aY 1 1 (wF 1 [(.bool true)]) (au ah [true]),_,(1:Int)=1,_,_,(List.replicate 1 (false:Bool)).length=1,aY 1 1 (fun _ j=>[(.bool false)].getD j .nilp) (au ah (List.replicate 1 (false:Bool))),_,(3:Int)=3,_,_,(List.replicate 3 (false:Bool)).length=3,aY 3 1 (fun _ j=>[(.bool false)].getD j .nilp) (au ah (List.replicate 3 (false:Bool))),_,(3:Int)=3,_,_,(List.replicate 3 (false:Bool)).length=3,aY 3 1 (fun _ j=>[(.bool false)].getD j .nilp) (au ah (List.replicate 3 (false:Bool)))] {an:=[(1, .arr [true,true].length (au ah [true,true])),(2, .arr (List.replicate 2 (false:Bool)).length (au ah (List.replicate 2 (false:Bool)))),(3, .arr (List.replicate 2 (false:Bool)).length (au ah (List.replicate 2 (false:Bool)))),(4, .arr [true].length (au ah [true])),(5, .arr (List.replicate 1 (false:Bool)).length (au ah (List.replicate 1 (false:Bool)))),(6, .arr (List.replicate 3 (false:Bool)).length (au ah (List.replicate 3 (false:Bool)))),(7, .arr (List.replicate 3 (false:Bool)).length (au ah (List.replicate 3 (false:Bool))))],fr:=[(1,29),(2,30),(3,31),(4,32),(5,33),(6,34),(7,35)] } [] ⟨(rfl),((by intro i hi j hj;match i,j,hi,hj with|0,0,_,_=>rfl|1,0,_,_=>rfl)),a1,rfl,a2,a3,(List.length_replicate),(jA _ _ _ _ _ (fun j hj=>(match j,hj with|0,_=>rfl))),a1,rfl,a2,a3,(List.length_replicate),(jA _ _ _ _ _ (fun j hj=>(match j,hj with|0,_=>rfl))),(rfl),((by intro i hi j hj;match i,j,hi,hj with|0,0,_,_=>rfl)),a4,rfl,a5,a6,(List.length_replicate),(jA _ _ _ _ _ (fun j hj=>(match j,hj with|0,_=>rfl))),a7,rfl,a8,a9,(List.length_replicate),(jA _ _ _ _ _ (fun j hj=>(match j,hj with|0,_=>rfl))),a7,rfl,a8,a9,(List.length_replicate),(jA _ _ _ _ _ (fun j hj=>(match j,hj with|0,_=>rfl))),trivial⟩ ?_
 refine aI (bG.fin (st':=⟨[(0,(vP 10 0)),(1,(vP 11 0))],[(0,some (aG 126 5 Source.cell [(⟨0,1,500,0,20⟩:Source)])),(1,some ajl),(2,some ah1),(3,some (aG 4 1 ah [true,true])),(4,some aak),(5,some aak),(6,some (aG 4 1 ah [true])),(7,some (aG 4 1 ah (List.replicate 1 (false:Bool)))),(8,some ZN),(9,some ZN),(10,some (.cells 26 afr)),(11,some (.cells 29 afh))]⟩) (cs:=[]) ⟨[],[(23,0),(26,1),(27,2),(29,3),(30,4),(31,5),(32,6),(33,7),(34,8),(35,9),(21,10),(22,11)]⟩ [0,1] (by kernel_rfl) trivial) ?_
 refine aR ?_
 obtain rfl:=oi h
 exact rh [(.agg afr),(.agg afh)] (.refl _) (hN 10 ⟨rfl,trivial,⟨rfl,trivial,trivial⟩⟩)
def qd  :((List Int) × Int)→Exit→St→Prop:=
  fun r=>bn TT [.tmp 6, .tmp 7] (.gL [(.one (.own 0 false r.1.length)),(sI r.2)]) [(0,some (aG 3 1 (aA .i64) r.1))]
section
variable (u1:((List aN) × Int)) (u2:((List aN) × Int)) (u0:(List Int)) (p:ai)
abbrev D8:Nat × TV:=(12,(vD (aC none 2 aN.cell u1.1)))
abbrev EP:Nat × TV:=(14,(vD (aC none 2 aN.cell u2.1)))
abbrev Gw:Nat × TV:=(16,(vD (.fn 105 0 (uL []))))
abbrev Rl:Nat × TV:=(17,(vO 37 false u0.length))
abbrev Jj:Nat × TV:=(57,(vI (p.racks.length:Int)))
abbrev Qx:List (Nat × Option Ob):=[(37,some (yQ u0))]
end
def vC (p:ai) (u1:((List aN) × Int)) (u2:((List aN) × Int)):((List Int) × Int)→St:=
  fun zz=>match zz with|(u0,u3)=> ⟨[(D8 u1),(EP u2),Gw,(Rl u0),(Jj p),(58,(vI u3))],(Qx u0)⟩
def vG  :(List Int)→St:=
  fun u0=> ⟨[(Rl u0)],(Qx u0)⟩
def DZ (p:ai) (u0:((List aN) × Int)) (u1:((List aN) × Int)):(aS ((List Int) × Int) (Ex (List Int) ((List Int) × Int)))→Exit→St→Prop:=
  LQ 1 [] (vC p u0 u1) vG qd
section
variable (u4:(State × Int))
abbrev ajq:Nat × TV:=(10,(agV u4))
end
theorem Er (p:ai) (s_:State) (u5:Int) {r:((List Int) × Int)} (h:Ai p s_ u5=some r):Fn Try.prog 61 (Qm p s_ u5) [] (.gL [(.one (.own 0 false r.1.length)),(sI r.2)]) [(0,some (aG 3 1 (aA .i64) r.1))]:=by
 refine fN tT Try.func61 rfl rfl fun B=> ?_
 show bJ _ _ _ _ _ _ (qd r) _
 unfold Ai at h
 refine sz tT (Zh p s_ u5) {fr:=[(0,21),(1,22)] } [21,22] ?_
 refine aQ (bE h fun r_ hr_ h=> ?_)
 have q0:=rk [(0,23),(1,24),(2,25),(3,26),(4,27),(5,28),(6,29),(7,30),(8,31)] (iR p s_ u5 hr_)
 refine ri tT ⟨[(2,(vI u5)),(bO p),(Be s_),(8,(vP 32 0)),(9,(vI r_.2))],[(32,some (aaB r_))]⟩ [_,r_.1.events.length=r_.1.events.length,r_.1.state.closed.length=r_.1.state.closed.length,r_.1.state.locked.length=r_.1.state.locked.length,r_.1.state.badLink.length=r_.1.state.badLink.length,r_.1.state.on_.length=r_.1.state.on_.length,r_.1.state.badSource.length=r_.1.state.badSource.length,r_.1.state.earthed.length=r_.1.state.earthed.length,r_.1.state.badBus.length=r_.1.state.badBus.length] {an:=[(3,cA q0 [])],fr:=[(7,32)] } [23,24,25,26,27,28,29,30] ⟨q0,rfl,rfl,rfl,rfl,rfl,rfl,rfl,rfl,trivial⟩ (fz ⟨[(2,(vI u5)),(bO p),(Be s_),(XC r_),(9,(vI r_.2))],[]⟩ [32]) ?_
 refine aQ (aB (sz tT ⟨[(2,(vI u5)),(bO p),(Be s_),(XC r_),(9,(vI r_.2)),(26,(vB (!decide (r_.2=0))))],[]⟩ {} [] ?_))
 refine bI h (fun hb3 h=> ?_) (fun hb3 h=> ?_)
 ·refine ct hb3 ?_
  refine sz tT ⟨[(6,(vD nS)),(7,(vI r_.2))],[]⟩ {} [] ?_
  refine aI (.trans (bG.Ci (t:=6) (b:=33) (esz0:=0) (el0:=fun _ _=> .nilp) (E:=3) (esz:=1) (el:=au (aA .i64) ([]:List Int)) (by kernel_rfl) (by kernel_rfl)) (.trans (bG.fin (st':=⟨[(6,(vO 0 false 0)),(7,(vI r_.2))],adD⟩) (cs:=[]) ⟨[],[(33,0)]⟩ [6,7] (by kernel_rfl) trivial) (bG.le (st':=⟨[(6,(vO 0 false (([]:List Int).length))),(7,(vI r_.2))],adt⟩) ⟨⟨⟨_,rfl,fC.v (jw.one cW)⟩,tR,trivial⟩,⟨rfl,oW,trivial⟩⟩))) ?_
  refine aR ?_
  obtain rfl:=oi h
  exact rl [(.one (.own 0 false (([]:List Int).length))),(sI r_.2)]
 ·refine cf hb3 ?_
  refine sz tT ⟨[(2,(vI u5)),(bO p),(Be s_),(XC r_),(30,(vB (!r_.1.cleared)))],[]⟩ {} [] ?_
  refine bI h (fun hb2 h=> ?_) (fun hb2 h=> ?_)
  ·refine ct hb2 ?_
   refine sz tT ⟨[(6,(vD nS)),(7,(vI 4))],[]⟩ {} [] ?_
   refine aI (.trans (bG.Ci (t:=6) (b:=34) (esz0:=0) (el0:=fun _ _=> .nilp) (E:=3) (esz:=1) (el:=au (aA .i64) ([]:List Int)) (by kernel_rfl) (by kernel_rfl)) (.trans (bG.fin (st':=⟨[(6,(vO 0 false 0)),(7,(vI 4))],adD⟩) (cs:=[]) ⟨[],[(34,0)]⟩ [6,7] (by kernel_rfl) trivial) (bG.le (st':=⟨[(6,(vO 0 false (([]:List Int).length))),(7,(vI 4))],adt⟩) ⟨⟨⟨_,rfl,fC.v (jw.one cW)⟩,tR,trivial⟩,⟨rfl,oW,trivial⟩⟩))) ?_
   refine aR ?_
   obtain rfl:=oi h
   exact rl [(.one (.own 0 false (([]:List Int).length))),(sI 4)]
  ·refine cf hb2 ?_
   refine aP (aQ (bE h fun u4 hr_1 h=> ?_))
   have q0:=Gy p r_.1.state (⟨1,u5⟩:Part) hr_1
   refine rg tT ⟨[(bO p),(Be s_),(ajq u4)],[]⟩ [_] {an:=[(5,cA q0 [])],fr:=[(9,35)] } [35] ⟨q0,trivial⟩ ?_
   refine aQ (bE h fun u3 hr_2 h=> ?_)
   have q0:=BJ p s_ hr_2
   refine rg tT ⟨[(bO p),(ajq u4),(D8 u3)],[]⟩ [_] {an:=[(2,cA q0 [])] } [] ⟨q0,trivial⟩ ?_
   refine aQ (bE h fun u2 hr_3 h=> ?_)
   have q0:=BJ p u4.1 hr_3
   refine rg tT ⟨[(bO p),(D8 u3),(EP u2)],[]⟩ [_] {an:=[(2,cA q0 [])] } [] ⟨q0,trivial⟩ ?_
   refine sz tT ⟨[(bO p),(D8 u3),(EP u2),Gw],[]⟩ {} [] ?_
   refine sz tT ⟨[(bO p),(D8 u3),(EP u2),Gw,(17,(vD nS))],[]⟩ {} [] ?_
   refine aQ (sz tT ⟨[(D8 u3),(EP u2),Gw,(17,(vD nS)),(Jj p),(58,(vI 0))],[]⟩ {} [] ?_)
   refine bE h fun y hy h=> ?_
   refine aI (.trans (bG.Ci (t:=17) (b:=44) (esz0:=0) (el0:=fun _ _=> .nilp) (E:=3) (esz:=1) (el:=au (aA .i64) ([]:List Int)) (by kernel_rfl) (by kernel_rfl)) (.trans (bG.fin (st':=⟨[(D8 u3),(EP u2),Gw,(17,(vO 37 false 0)),(Jj p),(58,(vI 0))],[(37,some (.arr 3 1 0 (au (aA .i64) ([]:List Int))))]⟩) (cs:=[]) ⟨[],[(44,37)]⟩ [12,14,16,17,57,58] (by kernel_rfl) trivial) (bG.le (st':=⟨[(D8 u3),(EP u2),Gw,(17,(vO 37 false (([]:List Int).length))),(Jj p),(58,(vI 0))],[(37,some (aG 3 1 (aA .i64) ([]:List Int)))]⟩) ⟨⟨tR,tR,tR,⟨_,rfl,fC.v (jw.one cW)⟩,tR,tR,trivial⟩,⟨rfl,oW,trivial⟩⟩))) ?_
   refine aL [] (vC p u3 u2) vG qd hy (fun s f h=> ?_) ?_
   ·clear hy
    show bJ _ _ _ _ _ _ ((DZ p u3 u2) f) _
    unfold AJ at h
    obtain⟨u1,u0⟩:=s
    refine sz tT ⟨[(D8 u3),(EP u2),Gw,(Rl u1),(Jj p),(58,(vI u0)),(59,(vB (decide (u0<(p.racks.length:Int)))))],(Qx u1)⟩ {} [] ?_
    refine aQ ?_
    refine bI h (fun hb1 h=> ?_) (fun hb1 h=> ?_)
    ·refine ct hb1 ?_
     refine aP (aQ (aB (sz tT ⟨[(D8 u3),(EP u2),Gw,(Rl u1),(18,(vI u0)),(Jj p),(58,(vI u0))],(Qx u1)⟩ {} [] ?_)))
     refine aQ (bE h fun u6 hr_4 h=> ?_)
     refine bE h fun u8 hr_5 h=> ?_
     refine aO h fun⟨a1,a2⟩ h=> ?_
     have q1:=wL (at' u3.1 u0.toNat) hr_4
     refine rg tT ⟨[(D8 u3),(EP u2),Gw,(Rl u1),(18,(vI u0)),(Jj p),(58,(vI u0)),(75,(vB (bif u6 then(!u8)else false)))],(Qx u1)⟩ (_::_::(eqs u6 4 ((gP (iD [(6,u6)]) [(6,true)]→All [(0:Int)≤u0∧u0<(u2.1.length:Int)])::(eqs u6 2 ((gP (iD [(6,u6)]) [(6,true)]→All [Fn Try.prog 105 [(.agg [(cB ((at' u2.1 u0.toNat).e0)),(cB ((at' u2.1 u0.toNat).e1))])] [] (vB u8) []])::(eqs u6 2 [])))))) {yb:=[(6,u6)],an:=[(5,cA q1 []),(12, .call [] (vB u8) [])] } [] ⟨a1,q1,(ae ⟨(fun hg=> ⟨(a2 (aZ hg)),trivial⟩),(ae ⟨(fun hg=> ⟨(wL (at' u2.1 u0.toNat) (gD hr_5 (aZ hg))),trivial⟩),(ae trivial)⟩)⟩)⟩ ?_
     refine bI h (fun hb h=> ?_) (fun hb h=> ?_)
     ·refine ct hb ?_
      refine aO h fun⟨a1,a2⟩ h=> ?_
      refine rg tT ⟨[(D8 u3),(EP u2),Gw,(17,(vO 43 false ((u1++[u0]).length))),(Jj p),(58,(vI u0))],[(43,some (aG 3 1 (aA .i64) (u1++[u0])))]⟩ [[u0].length=1,aY 1 1 (wF 1 [(.int .i64 u0)]) (au (aA .i64) [u0]),u1.length=u1.length,_,_,(u1++[u0]).length=u1.length+[u0].length,aY (u1.length+[u0].length) 1 (acA u0 u1) (Uu u0 u1)] {an:=[(2, .arr [u0].length (au (aA .i64) [u0])),(3, .arr (u1++[u0]).length (Uu u0 u1))],fr:=[(2,42),(3,43)] } [] ⟨(rfl),((by intro i hi j hj;match i,j,hi,hj with|0,0,_,_=>rfl)),rfl,a1,a2,(List.length_append),(dz _ _ _ _),trivial⟩ ?_
      refine ri tT ⟨[(D8 u3),(EP u2),Gw,(17,(vO 43 false ((u1++[u0]).length))),(Jj p),(58,(uM u0))],[(43,some (aG 3 1 (aA .i64) (u1++[u0])))]⟩ [] {} [] trivial (bG.fin (st':=⟨[(D8 u3),(EP u2),Gw,(17,(vO 37 false ((u1++[u0]).length))),(Jj p),(58,(uM u0))],[(37,some (aG 3 1 (aA .i64) (u1++[u0])))]⟩) (cs:=[]) ⟨[],[(43,37)]⟩ [12,14,16,17,57,58] (by kernel_rfl) trivial) ?_
      obtain rfl:=oi h
      exact lN
     ·refine cf hb ?_
      refine aP (rz tT ⟨[(D8 u3),(EP u2),Gw,(Rl u1),(Jj p),(58,(uM u0))],(Qx u1)⟩ {} [] ?_)
      obtain rfl:=oi h
      exact lN
    ·refine cf hb1 ?_
     refine aI (fz ⟨[(Rl u1)],(Qx u1)⟩ []) ?_
     refine aX ?_
     obtain rfl:=oi h
     exact lB
   ·clear hy
    cases y with
    |brk z=>
     obtain⟨u7,rfl⟩: ∃q,q=z:=⟨_,rfl⟩
     unfold fZ
     refine⟨_, .refl, ?_⟩
     refine sz tT ⟨[(6,(vO 37 false u7.length)),(7,(vI 0))],(Qx u7)⟩ {} [] ?_
     refine aI (bG.fin (st':=⟨[(6,(vO 0 false u7.length)),(7,(vI 0))],[(0,some (yQ u7))]⟩) (cs:=[]) ⟨[],[(37,0)]⟩ [6,7] (by kernel_rfl) trivial) ?_
     refine aR ?_
     obtain rfl:=oi h
     exact rl [(.one (.own 0 false u7.length)),(sI 0)]
    |ret v=>
     obtain rfl:=oi h
     unfold fZ
     intro e st hn ha hR
     cases e with
     |normal=>exact absurd rfl hn
     |exit id=>exact hR
     |goto l=>exact hR
     |ret=>exact hR
     |panic c=>exact hR
     |outgrown=>exact hR
def IU  :Bool→Exit→St→Prop:=
  fun r=>bn TT [.tmp 0] (vB r) []
section
variable (r_:(ai × State)) (u0:(aj × Int)) (u3:((List Int) × Int)) (u1:(Bool × Int)) (u2:(aj × Int)) (u4:(Bool × Int))
abbrev Uv:Nat × Option Ob:=(36,some (aG 126 5 Source.cell r_.1.sources))
abbrev UE:Nat × Option Ob:=(37,some (aG 53 6 Link.cell r_.1.links))
abbrev Vi:Nat × Option Ob:=(38,some (aG 166 4 aJ.cell r_.1.racks))
abbrev ae2:List CV:=[(cI r_.1.buses),(.own 36 true r_.1.sources.length),(.own 37 true r_.1.links.length),(.own 38 true r_.1.racks.length)]
abbrev ad9:Nat × Option Ob:=(48,some (.cells 26 (ae2 r_)))
abbrev Z0:List CV:=[(.d (aC (some true) 1 ah r_.2.closed)),(.d (aC (some true) 1 ah r_.2.locked)),(.d (aC (some true) 1 ah r_.2.badLink)),(.d (aC (some true) 1 ah r_.2.on_)),(.d (aC (some true) 1 ah r_.2.badSource)),(.d (aC (some true) 1 ah r_.2.earthed)),(.d (aC (some true) 1 ah r_.2.badBus))]
abbrev IQ:Nat × TV:=(2,(vD (nN [(aC (some true) 1 ah r_.2.closed),(aC (some true) 1 ah r_.2.locked),(aC (some true) 1 ah r_.2.badLink),(aC (some true) 1 ah r_.2.on_),(aC (some true) 1 ah r_.2.badSource),(aC (some true) 1 ah r_.2.earthed),(aC (some true) 1 ah r_.2.badBus)] 0)))
abbrev Yk:Nat × Option Ob:=(50,some (aG 56 2 Event.cell u0.1.events))
abbrev XK:Nat × Option Ob:=(51,some (aG 4 1 ah u0.1.state.closed))
abbrev YC:Nat × Option Ob:=(52,some (aG 4 1 ah u0.1.state.locked))
abbrev YO:Nat × Option Ob:=(53,some (aG 4 1 ah u0.1.state.badLink))
abbrev WB:Nat × Option Ob:=(54,some (aG 4 1 ah u0.1.state.on_))
abbrev Wj:Nat × Option Ob:=(55,some (aG 4 1 ah u0.1.state.badSource))
abbrev X5:Nat × Option Ob:=(56,some (aG 4 1 ah u0.1.state.earthed))
abbrev Ya:Nat × Option Ob:=(57,some (aG 4 1 ah u0.1.state.badBus))
abbrev ahw:List CV:=[(.own 50 false u0.1.events.length),(cB u0.1.cleared),(cI u0.1.millis),(cI u0.1.energy),(.own 51 false u0.1.state.closed.length),(.own 52 false u0.1.state.locked.length),(.own 53 false u0.1.state.badLink.length),(.own 54 false u0.1.state.on_.length),(.own 55 false u0.1.state.badSource.length),(.own 56 false u0.1.state.earthed.length),(.own 57 false u0.1.state.badBus.length)]
abbrev aa0:Nat × Option Ob:=(59,some (.cells 36 (ahw u0)))
abbrev Tx:List (Nat × Option Ob):=[(Uv r_),(UE r_),(Vi r_),(ad9 r_),(Yk u0),(XK u0),(YC u0),(YO u0),(WB u0),(Wj u0),(X5 u0),(Ya u0),(aa0 u0)]
abbrev ad1:List SV:=[(.agg (ae2 r_)),(.agg (Z0 r_)),(sI 2)]
abbrev Y2:List (Nat × Option Ob):=[(Uv r_),(UE r_),(Vi r_)]
abbrev ai4:TV:=(.gL [(.agg (ahw u0)),(sI u0.2)])
abbrev ajb:List (Nat × Option Ob):=[(Uv r_),(UE r_),(Vi r_),(Yk u0),(XK u0),(YC u0),(YO u0),(WB u0),(Wj u0),(X5 u0),(Ya u0),(58,none)]
abbrev af8:List CV:=[(.d (aC none 1 ah r_.2.closed)),(.d (aC none 1 ah r_.2.locked)),(.d (aC none 1 ah r_.2.badLink)),(.d (aC none 1 ah r_.2.on_)),(.d (aC none 1 ah r_.2.badSource)),(.d (aC none 1 ah r_.2.earthed)),(.d (aC none 1 ah r_.2.badBus))]
abbrev aix:List SV:=[(.agg [(cI r_.1.buses),(.d (aC none 5 Source.cell r_.1.sources)),(.d (aC none 6 Link.cell r_.1.links)),(.d (aC none 4 aJ.cell r_.1.racks))]),(.agg (af8 r_)),(sI 2)]
abbrev Y7:DV:=(aC (some true) 5 Source.cell r_.1.sources)
abbrev YU:DV:=(aC (some true) 4 aJ.cell r_.1.racks)
abbrev acy:List SV:=[(.agg [(cI r_.1.buses),(.d (Y7 r_)),(.d (aC (some true) 6 Link.cell r_.1.links)),(.d (YU r_))]),(.agg (Z0 r_)),(sI 2)]
abbrev agl:List (Nat × Option Ob):=[(Uv r_),(UE r_),(Vi r_),(60,some (aG 3 1 (aA .i64) u3.1))]
abbrev Rm:=(bif (!decide (u0.2=0))then true else(!decide (u1.2=0)))
abbrev Rs:=(bif (Rm u0 u1)then true else(!decide (u3.2=0)))
abbrev Sq:=(bif (Rs u0 u3 u1)then true else(!u1.1))
abbrev J3:=(bif (Sq u0 u3 u1)then true else(!decide ((u0.1.events.length:Int)=1)))
abbrev SS:=(bif (J3 u0 u3 u1)then true else(!((decide (((at' u0.1.events 0).millis)=50)) && ((decide (((at' u0.1.events 0).link)=1)) && true))))
abbrev SN:=(bif (SS u0 u3 u1)then true else(!u0.1.cleared))
abbrev IW:=(bif (SN u0 u3 u1)then true else(!decide (u0.1.energy=5000000)))
abbrev VK:=(iD [(2,(!decide (u0.2=0))),(6,(Rm u0 u1)),(10,(Rs u0 u3 u1)),(14,(Sq u0 u3 u1)),(20,(J3 u0 u3 u1)),(28,(SS u0 u3 u1)),(33,(SN u0 u3 u1)),(38,true)])
abbrev ahb:=((J3 u0 u3 u1)=(J3 u0 u3 u1))
abbrev WS:=(iD [(2,(!decide (u0.2=0))),(6,(Rm u0 u1)),(10,(Rs u0 u3 u1)),(14,(Sq u0 u3 u1)),(20,(J3 u0 u3 u1)),(28,(SS u0 u3 u1)),(33,(SN u0 u3 u1)),(38,false)])
abbrev ahV:List (Nat × TV):=[(1,(vP 48 0)),(IQ r_),(3,(vP 59 0))]
abbrev aaJ:=(nP (au Link.cell r_.1.links) 1 5 [nS])
abbrev afP:=(⟨(at' r_.1.links 1).a,(at' r_.1.links 1).b,(at' r_.1.links 1).kind,(at' r_.1.links 1).most,(at' r_.1.links 1).bK,([]:List dU)⟩:Link)
abbrev adb:=(r_.1.links.set 1 (afP r_))
abbrev aga:DV:=(aC (some true) 6 Link.cell (adb r_))
abbrev ajC:List CV:=[(cI r_.1.buses),(.d (Y7 r_)),(.d (aga r_)),(.d (YU r_))]
abbrev acg:Nat × TV:=(1,(vD (nN [(.int .i64 r_.1.buses),(Y7 r_),(aga r_),(YU r_)] 0)))
abbrev afp:List SV:=[(.agg (ajC r_)),(.agg (Z0 r_)),(sI 2)]
abbrev aiq:TV:=(.gL [(.agg [(.own 62 false u2.1.events.length),(cB u2.1.cleared),(cI u2.1.millis),(cI u2.1.energy),(.own 63 false u2.1.state.closed.length),(.own 64 false u2.1.state.locked.length),(.own 65 false u2.1.state.badLink.length),(.own 66 false u2.1.state.on_.length),(.own 67 false u2.1.state.badSource.length),(.own 68 false u2.1.state.earthed.length),(.own 69 false u2.1.state.badBus.length)]),(sI u2.2)])
abbrev ahH:List (Nat × Option Ob):=[(62,some (aG 56 2 Event.cell u2.1.events)),(63,some (aG 4 1 ah u2.1.state.closed)),(64,some (aG 4 1 ah u2.1.state.locked)),(65,some (aG 4 1 ah u2.1.state.badLink)),(66,some (aG 4 1 ah u2.1.state.on_)),(67,some (aG 4 1 ah u2.1.state.badSource)),(68,some (aG 4 1 ah u2.1.state.earthed)),(69,some (aG 4 1 ah u2.1.state.badBus)),(70,none)]
abbrev agD:List SV:=[(.agg [(cI r_.1.buses),(.d (aC none 5 Source.cell r_.1.sources)),(.d (aC none 6 Link.cell (adb r_))),(.d (aC none 4 aJ.cell r_.1.racks))]),(.agg (af8 r_)),(sI 2)]
abbrev agC:=(⟨r_.1.buses,r_.1.sources,(adb r_),r_.1.racks⟩:ai)
abbrev ahm:Nat × TV:=(3,(ab8 u2))
abbrev Zn:=(bif (decide (u2.2=0))then(decide (u4.2=0))else false)
abbrev YW:=(bif (Zn u2 u4)then(!u4.1)else false)
abbrev YV:=(bif (YW u2 u4)then u2.1.cleared else false)
abbrev Xn:=(bif (YV u2 u4)then(decide ((u2.1.events.length:Int)=1))else false)
abbrev aae:=(bif (Xn u2 u4)then((decide (((at' u2.1.events 0).millis)=100)) && ((decide (((at' u2.1.events 0).link)=0)) && true))else false)
abbrev aiY:=(bif (aae u2 u4)then(decide (u2.1.millis=100))else false)
end
theorem zy  {r:Bool} (h:om=some r):Fn Try.prog 13 [] [] (vB r) []:=by
 refine fN tT Try.func13 rfl rfl fun B=> ?_
 show bJ _ _ _ _ _ _ (IU r) _
 unfold om at h
 refine sz tT ⟨[],[]⟩ {} [] ?_
 refine aQ (bE h fun r_ hr_ h=> ?_)
 have q0:=rk [(0,36),(1,37),(2,38),(3,39),(4,40),(5,41),(6,42),(7,43),(8,44),(9,45),(10,46),(11,47)] (AU hr_)
 refine ri tT ⟨[(1,(vP 48 0)),(2,(vP 49 0))],[(Uv r_),(UE r_),(Vi r_),(ad9 r_),(49,some (.cells 29 (Z0 r_)))]⟩ [_,r_.2.closed.length=r_.2.closed.length,r_.2.locked.length=r_.2.locked.length,r_.2.badLink.length=r_.2.badLink.length,r_.2.on_.length=r_.2.on_.length,r_.2.badSource.length=r_.2.badSource.length,r_.2.earthed.length=r_.2.earthed.length,r_.2.badBus.length=r_.2.badBus.length] {an:=[(0,cA q0 [])],fr:=[(4,48),(5,49)] } [39,40,41,42,43,44,45] ⟨q0,rfl,rfl,rfl,rfl,rfl,rfl,rfl,trivial⟩ (fz ⟨[(1,(vP 48 0)),(IQ r_)],[(Uv r_),(UE r_),(Vi r_),(ad9 r_)]⟩ [49]) ?_
 refine aQ (bE h fun u0 hr_1 h=> ?_)
 refine rg tT ⟨[(1,(vP 48 0)),(IQ r_),(3,(vP 59 0)),(4,(vI u0.2))],(Tx r_ u0)⟩ [Fn Try.prog 15 (ad1 r_) (Y2 r_) (ai4 u0) (ajb r_ u0)] {an:=[(2, .call [36,37,38] (ai4 u0) (ajb r_ u0))],fr:=[(6,59)] } [] ⟨(Fn.Wp (frz:=[36,37,38]) (p:=[r_.1.sources.length=r_.1.sources.length,r_.1.links.length=r_.1.links.length,r_.1.racks.length=r_.1.racks.length]) (Fn.leH (args:=(aix r_)) (args':=(acy r_)) (hin:=[]) (rK [(0,50),(1,51),(2,52),(3,53),(4,54),(5,55),(6,56),(7,57),(8,58)] (iR r_.1 r_.2 2 hr_1)) ⟨jw.agg ⟨bL.refl _,bL.d dP.l9,bL.d dP.l9,bL.d dP.l9,trivial⟩,jw.agg ⟨bL.d dP.l9,bL.d dP.l9,bL.d dP.l9,bL.d dP.l9,bL.d dP.l9,bL.d dP.l9,bL.d dP.l9,trivial⟩,jw.refl _,trivial⟩ trivial) (by kernel_rfl) ⟨rfl,rfl,rfl,trivial⟩ (by kernel_rfl) ⟨(fun _ j=>match j with|0=>rfl|1=>rfl|_+2=>rfl),⟨(fun _ _=>rfl),⟨(fun _ _=>rfl),⟨(fun _ _=>rfl),⟨(fun _ _=>rfl),⟨(fun _ _=>rfl),⟨(fun _ _=>rfl),⟨(fun _ _=>rfl),trivial⟩⟩⟩⟩⟩⟩⟩⟩ (by kernel_rfl)),trivial⟩ ?_
 refine aQ (bE h fun u1 hr_2 h=> ?_)
 refine rg tT ⟨[(1,(vP 48 0)),(IQ r_),(3,(vP 59 0)),(4,(vI u0.2)),(5,(vB u1.1)),(6,(vI u1.2))],(Tx r_ u0)⟩ [Fn Try.prog 60 (ad1 r_) (Y2 r_) (.gL [(sB u1.1),(sI u1.2)]) (Y2 r_)] {an:=[(2, .callR [36,37,38] (.gL [(sB u1.1),(sI u1.2)]))] } [] ⟨(Fn.Df (frz:=[36,37,38]) (p:=[r_.1.sources.length=r_.1.sources.length,r_.1.links.length=r_.1.links.length,r_.1.racks.length=r_.1.racks.length]) (Fn.le (args':=(acy r_)) (rV r_.1 r_.2 2 hr_2) ⟨jw.agg ⟨bL.refl _,bL.d dP.l9,bL.d dP.l9,bL.d dP.l9,trivial⟩,jw.agg ⟨bL.d dP.l9,bL.d dP.l9,bL.d dP.l9,bL.d dP.l9,bL.d dP.l9,bL.d dP.l9,bL.d dP.l9,trivial⟩,jw.refl _,trivial⟩) (by kernel_rfl) ⟨rfl,rfl,rfl,trivial⟩ rfl),trivial⟩ ?_
 refine aQ (bE h fun u3 hr_3 h=> ?_)
 refine rg tT ⟨[(1,(vP 48 0)),(IQ r_),(3,(vP 59 0)),(4,(vI u0.2)),(5,(vB u1.1)),(6,(vI u1.2)),(7,(vD (aC none 1 (aA .i64) u3.1))),(8,(vI u3.2))],(Tx r_ u0)⟩ [Fn Try.prog 61 (ad1 r_) (Y2 r_) (.gL [(.one (.own 60 false u3.1.length)),(sI u3.2)]) (agl r_ u3),u3.1.length=u3.1.length] {an:=[(2, .call [36,37,38] (.gL [(.one (.own 60 false u3.1.length)),(sI u3.2)]) (agl r_ u3))] } [60] ⟨(Fn.Wp (frz:=[36,37,38]) (p:=[r_.1.sources.length=r_.1.sources.length,r_.1.links.length=r_.1.links.length,r_.1.racks.length=r_.1.racks.length]) (Fn.leH (args:=(aix r_)) (args':=(acy r_)) (hin:=[]) (rK [(0,60)] (Er r_.1 r_.2 2 hr_3)) ⟨jw.agg ⟨bL.refl _,bL.d dP.l9,bL.d dP.l9,bL.d dP.l9,trivial⟩,jw.agg ⟨bL.d dP.l9,bL.d dP.l9,bL.d dP.l9,bL.d dP.l9,bL.d dP.l9,bL.d dP.l9,bL.d dP.l9,trivial⟩,jw.refl _,trivial⟩ trivial) (by kernel_rfl) ⟨rfl,rfl,rfl,trivial⟩ (by kernel_rfl) ⟨(fun _ _=>rfl),trivial⟩ (by kernel_rfl)),rfl,trivial⟩ ?_
 refine aQ (aQ ?_)
 refine bI h (fun hb h=> ?_) (fun hb h=> ?_)
 ·skip
  refine aO h fun a1 h=> ?_
  refine ri tT ⟨[(1,(vP 48 0)),(IQ r_),(3,(vP 59 0)),(74,(vB (bif (IW u0 u3 u1)then true else false)))],(Tx r_ u0)⟩ (eqs (!decide (u0.2=0)) 3 (eqs (Rm u0 u1) 3 (eqs (Rs u0 u3 u1) 3 (eqs (Sq u0 u3 u1) 5 (eqs (J3 u0 u3 u1) 3 ((gP (VK u0 u3 u1) [(20,false)]→All [(0:Int)≤0∧0<(u0.1.events.length:Int)])::(ahb u0 u3 u1)::(gP (VK u0 u3 u1) [(20,false)]→All [0<u0.1.events.length])::(eqs (J3 u0 u3 u1) 3 (eqs (SS u0 u3 u1) 4 (eqs (SN u0 u3 u1) 4 [(IW u0 u3 u1)=true, ¬ gP (VK u0 u3 u1) [(38,false)],(IW u0 u3 u1)=true, ¬ gP (VK u0 u3 u1) [(38,false)],(IW u0 u3 u1)=true, ¬ gP (VK u0 u3 u1) [(38,false)],(IW u0 u3 u1)=true, ¬ gP (VK u0 u3 u1) [(38,false)],(IW u0 u3 u1)=true]))))))))) {yb:=[(2,(!decide (u0.2=0))),(6,(Rm u0 u1)),(10,(Rs u0 u3 u1)),(14,(Sq u0 u3 u1)),(20,(J3 u0 u3 u1)),(28,(SS u0 u3 u1)),(33,(SN u0 u3 u1)),(38,true)],an:=[(39, .skip),(40, .skip),(41, .skip),(42, .skip)] } [] (ae (ae (ae (ae (ae ⟨(fun hg=> ⟨(a1 (aZ hg)),trivial⟩),rfl,(fun hg=> ⟨((fun hq=>tL (a1 hq)) (aZ hg)),trivial⟩),(ae (ae (ae ⟨(hb),((fun h=>Bool.noConfusion (show true=false from h.1))),(hb),((fun h=>Bool.noConfusion (show true=false from h.1))),(hb),((fun h=>Bool.noConfusion (show true=false from h.1))),(hb),((fun h=>Bool.noConfusion (show true=false from h.1))),(hb),trivial⟩)))⟩))))) (bG.le (st':=⟨[(1,(vP 48 0)),(IQ r_),(3,(vP 59 0)),(74,(vB true))],(Tx r_ u0)⟩) ⟨⟨tR,tR,tR,⟨_,rfl,fC.v (jw.one (bL.of (congrArg (fun b=>CV.d (.bool b)) (XY hb))))⟩,trivial⟩,(.refl _)⟩) ?_
  refine ck (sz tT ⟨[(0,(vB false))],[]⟩ {} [] ?_)
  refine aR ?_
  obtain rfl:=oi h
  exact rl [(sB false)]
 ·skip
  refine bE h fun u5 hr_4 h=> ?_
  refine aO h fun a1 h=> ?_
  refine ri tT ⟨[(1,(vP 48 0)),(IQ r_),(3,(vP 59 0)),(74,(vB (bif (IW u0 u3 u1)then true else(!u5))))],(Tx r_ u0)⟩ (eqs (!decide (u0.2=0)) 3 (eqs (Rm u0 u1) 3 (eqs (Rs u0 u3 u1) 3 (eqs (Sq u0 u3 u1) 5 (eqs (J3 u0 u3 u1) 3 ((gP (WS u0 u3 u1) [(20,false)]→All [(0:Int)≤0∧0<(u0.1.events.length:Int)])::(ahb u0 u3 u1)::(gP (WS u0 u3 u1) [(20,false)]→All [0<u0.1.events.length])::(eqs (J3 u0 u3 u1) 3 (eqs (SS u0 u3 u1) 4 (eqs (SN u0 u3 u1) 4 [(IW u0 u3 u1)=false,(IW u0 u3 u1)=false,gP (WS u0 u3 u1) [(38,false)]→All [[0].length=1,aY 1 1 (wF 1 [(.int .i64 0)]) (au (aA .i64) [0])],gP (WS u0 u3 u1) [(38,false)],(IW u0 u3 u1)=false,gP (WS u0 u3 u1) [(38,false)]→All [Fn Try.prog 54 [(sD (aC none 1 (aA .i64) u3.1)),(.one (.own 61 true ([0].length)))] [(61,some (aG 3 1 (aA .i64) [0]))] (vB u5) [(61,some (aG 3 1 (aA .i64) [0]))]],(IW u0 u3 u1)=false,(IW u0 u3 u1)=false]))))))))) {yb:=[(2,(!decide (u0.2=0))),(6,(Rm u0 u1)),(10,(Rs u0 u3 u1)),(14,(Sq u0 u3 u1)),(20,(J3 u0 u3 u1)),(28,(SS u0 u3 u1)),(33,(SN u0 u3 u1)),(38,false)],an:=[(40, .arr [0].length (au (aA .i64) [0])),(41, .callR [61] (vB u5))],fr:=[(40,61)] } [] (ae (ae (ae (ae (ae ⟨(fun hg=> ⟨(a1 (aZ hg)),trivial⟩),rfl,(fun hg=> ⟨((fun hq=>tL (a1 hq)) (aZ hg)),trivial⟩),(ae (ae (ae ⟨(hb),(hb),(fun hg=> ⟨(rfl),((by intro i hi j hj;match i,j,hi,hj with|0,0,_,_=>rfl)),trivial⟩),(⟨rfl,trivial⟩),(hb),(fun hg=> ⟨(Fn.Df (frz:=[61]) (p:=[[0].length=[0].length]) (Fn.le (args':=[(sD (aC none 1 (aA .i64) u3.1)),(sD (aC (some true) 1 (aA .i64) [0]))]) (FN u3.1 [0] hr_4) ⟨jw.refl _,jw.one (bL.d dP.l9),trivial⟩) (by kernel_rfl) ⟨rfl,trivial⟩ rfl),trivial⟩),(hb),(hb),trivial⟩)))⟩))))) (bG.le (st':=⟨[(1,(vP 48 0)),(IQ r_),(3,(vP 59 0)),(74,(vB (!u5)))],(Tx r_ u0)⟩) ⟨⟨tR,tR,tR,⟨_,rfl,fC.v (jw.one (bL.of (congrArg (fun b=>CV.d (.bool b)) (WZ hb))))⟩,trivial⟩,(.refl _)⟩) ?_
  refine bI h (fun hb1 h=> ?_) (fun hb1 h=> ?_)
  ·refine ct hb1 ?_
   refine sz tT ⟨[(0,(vB false))],[]⟩ {} [] ?_
   refine aR ?_
   obtain rfl:=oi h
   exact rl [(sB false)]
  ·refine cf hb1 ?_
   refine aP (aQ (aO h fun a1 h=> ?_))
   refine ri tT ⟨(ahV r_),[(48,some (.cells 26 [(cI r_.1.buses),(.d (Y7 r_)),(.d (.sl (some true) 6 r_.1.links.length (aaJ r_))),(.d (YU r_))])),(Yk u0),(XK u0),(YC u0),(YO u0),(WB u0),(Wj u0),(X5 u0),(Ya u0),(aa0 u0)]⟩ [_,_,aY r_.1.links.length 6 (aaJ r_) (aaJ r_),r_.1.sources.length=r_.1.sources.length,r_.1.links.length=r_.1.links.length,r_.1.racks.length=r_.1.racks.length] {an:=[(4, .arr 0 (aaJ r_))] } [36,37,38] ⟨a1,(tL a1),(vK _ _ _),rfl,rfl,rfl,trivial⟩ (.trans (bG.le (st':=⟨(ahV r_),[(48,some (.cells 26 (ajC r_))),(Yk u0),(XK u0),(YC u0),(YO u0),(WB u0),(Wj u0),(X5 u0),(Ya u0),(aa0 u0)]⟩) ⟨⟨tR,tR,tR,trivial⟩,⟨rfl,fV ⟨bL.refl _,bL.refl _,bL.d (dP.slN (by simp only [List.length_set]) (.inr rfl) (aj5 Link.cell r_.1.links _ _ 1 5 [nS] (afP r_) (by simp only [List.length_set]) (fun j hj=>match j,hj with|0,_=> .refl _|1,_=> .refl _|2,_=> .refl _|3,_=> .refl _|4,_=> .refl _|5,_=>dP.nil'))),bL.refl _,trivial⟩,(.refl _)⟩⟩) (fz ⟨[(acg r_),(IQ r_),(3,(vP 59 0))],[(Yk u0),(XK u0),(YC u0),(YO u0),(WB u0),(Wj u0),(X5 u0),(Ya u0),(aa0 u0)]⟩ [48])) ?_
   refine aQ (bE h fun u2 hr_5 h=> ?_)
   refine ri tT ⟨[(acg r_),(IQ r_),(3,(vP 59 0)),(4,(vI u2.2))],[(59,some (aaB u2))]⟩ [Fn Try.prog 15 (afp r_) [] (aiq u2) (ahH u2),u2.1.events.length=u2.1.events.length,u2.1.state.closed.length=u2.1.state.closed.length,u2.1.state.locked.length=u2.1.state.locked.length,u2.1.state.badLink.length=u2.1.state.badLink.length,u2.1.state.on_.length=u2.1.state.on_.length,u2.1.state.badSource.length=u2.1.state.badSource.length,u2.1.state.earthed.length=u2.1.state.earthed.length,u2.1.state.badBus.length=u2.1.state.badBus.length] {an:=[(2, .call [] (aiq u2) (ahH u2))] } [62,63,64,65,66,67,68,69] ⟨(Fn.leH (args:=(agD r_)) (hin:=[]) (rK [(0,62),(1,63),(2,64),(3,65),(4,66),(5,67),(6,68),(7,69),(8,70)] (iR (agC r_) r_.2 2 hr_5)) ⟨jw.agg ⟨bL.refl _,bL.d dP.l9,bL.d dP.l9,bL.d dP.l9,trivial⟩,jw.agg ⟨bL.d dP.l9,bL.d dP.l9,bL.d dP.l9,bL.d dP.l9,bL.d dP.l9,bL.d dP.l9,bL.d dP.l9,trivial⟩,jw.refl _,trivial⟩ trivial),rfl,rfl,rfl,rfl,rfl,rfl,rfl,rfl,trivial⟩ (fz ⟨[(acg r_),(IQ r_),(ahm u2),(4,(vI u2.2))],[]⟩ [59]) ?_
   refine aQ (bE h fun u4 hr_6 h=> ?_)
   refine rg tT ⟨[(ahm u2),(4,(vI u2.2)),(5,(vB u4.1)),(6,(vI u4.2))],[]⟩ [Fn Try.prog 60 (afp r_) [] (.gL [(sB u4.1),(sI u4.2)]) []] {an:=[(2, .call [] (.gL [(sB u4.1),(sI u4.2)]) [])] } [] ⟨(Fn.leH (args:=(agD r_)) (hin:=[]) (rV (agC r_) r_.2 2 hr_6) ⟨jw.agg ⟨bL.refl _,bL.d dP.l9,bL.d dP.l9,bL.d dP.l9,trivial⟩,jw.agg ⟨bL.d dP.l9,bL.d dP.l9,bL.d dP.l9,bL.d dP.l9,bL.d dP.l9,bL.d dP.l9,bL.d dP.l9,trivial⟩,jw.refl _,trivial⟩ trivial),trivial⟩ ?_
   refine aQ (aO h fun a1 h=> ?_)
   refine rg tT ⟨[(0,(vB (aiY u2 u4)))],[]⟩ (eqs (decide (u2.2=0)) 3 (eqs (Zn u2 u4) 3 (eqs (YW u2 u4) 3 (eqs (YV u2 u4) 5 (eqs (Xn u2 u4) 3 ((gP (iD [(2,(decide (u2.2=0))),(6,(Zn u2 u4)),(10,(YW u2 u4)),(14,(YV u2 u4)),(20,(Xn u2 u4)),(28,(aae u2 u4))]) [(20,true)]→All [(0:Int)≤0∧0<(u2.1.events.length:Int)])::(eqs (Xn u2 u4) 4 (eqs (aae u2 u4) 4 [])))))))) {yb:=[(2,(decide (u2.2=0))),(6,(Zn u2 u4)),(10,(YW u2 u4)),(14,(YV u2 u4)),(20,(Xn u2 u4)),(28,(aae u2 u4))] } [] (ae (ae (ae (ae (ae ⟨(fun hg=> ⟨(a1 (aZ hg)),trivial⟩),(ae (ae trivial))⟩))))) ?_
   refine aR ?_
   obtain rfl:=oi h
   exact rl [(sB (aiY u2 u4))]
def vJ  :Bool→Exit→St→Prop:=
  fun r=>bn TT [.tmp 4] (vB r) []
section
variable (x:Link)
abbrev LU:List (Nat × Option Ob):=[(7,some (k39 x))]
end
def Au (x:Link):Int→St:=
  fun i=> ⟨[(3,(vP 7 0)),(5,(vI i))],(LU x)⟩
def Ay  :Unit→St:=
  fun _=> ⟨[],[]⟩
def H6 (x:Link):(aS Int (Ex Unit Bool))→Exit→St→Prop:=
  LQ 0 [] (Au x) Ay vJ
section
variable (x:Link) (p:ai) (i:Int)
abbrev acD:=(bif (decide (x.a<0))then true else(decide (p.buses≤x.a)))
abbrev aen:=(bif (acD x p)then true else(decide (x.b<0)))
abbrev abV:=(bif (aen x p)then true else(decide (p.buses≤x.b)))
abbrev adq:=(bif (abV x p)then true else(decide (x.a=x.b)))
abbrev aed:=(bif (adq x p)then true else(decide (x.kind<1)))
abbrev adC:=(bif (aed x p)then true else(decide (3<x.kind)))
abbrev acR:=(bif (adC x p)then true else(decide (x.most<1)))
abbrev adP:=(bif (acR x p)then true else(decide (100000<x.most)))
abbrev adI:=(bif (adP x p)then true else(decide (x.bK<10)))
abbrev Py:=(decide (6<(x.trip.length:Int)))
abbrev UI:=(decide (0<(x.trip.length:Int)))
abbrev ai5:Nat × TV:=(6,(k45 x i))
abbrev adM:=(bif (decide (((at' x.trip i.toNat).amps)<1))then true else(decide (1000000<((at' x.trip i.toNat).amps))))
abbrev adX:=(bif (adM x i)then true else(decide ((Yf x i)<1)))
abbrev adl:=(iD [(2,(decide (0<i))),(13,(UY x i))])
end
theorem Ia (p:ai) (x:Link) {r:Bool} (h:pG p x=some r):Fn Try.prog 118 [(.agg (k1 p)),(.agg (k37 x))] [] (vB r) []:=by
 refine fN tT Try.func118 rfl rfl fun B=> ?_
 show bJ _ _ _ _ _ _ (vJ r) _
 unfold pG at h
 refine sz tT ⟨[(fo p),(3,(vP 7 0))],(LU x)⟩ {fr:=[(0,6),(1,7)] } [6] ?_
 refine aQ (sg tT ⟨[(3,(vP 7 0)),(65,(vB (bif (adI x p)then true else(decide (100000<x.bK)))))],(LU x)⟩ (eqs (decide (x.a<0)) 6 (eqs (acD x p) 4 (eqs (aen x p) 6 (eqs (abV x p) 6 (eqs (adq x p) 4 (eqs (aed x p) 4 (eqs (adC x p) 4 (eqs (acR x p) 4 (eqs (adP x p) 4 (eqs (adI x p) 4 [])))))))))) {yb:=[(3,(decide (x.a<0))),(10,(acD x p)),(15,(aen x p)),(22,(abV x p)),(29,(adq x p)),(34,(aed x p)),(39,(adC x p)),(44,(acR x p)),(49,(adP x p)),(54,(adI x p))] } [] (ae (ae (ae (ae (ae (ae (ae (ae (ae (ae trivial)))))))))) ?_)
 refine bI h (fun hb4 h=> ?_) (fun hb4 h=> ?_)
 ·refine ct hb4 ?_
  refine sz tT ⟨[(4,(vB false))],[]⟩ {} [] ?_
  refine aR ?_
  obtain rfl:=oi h
  exact rl [(sB false)]
 ·refine cf hb4 ?_
  refine aP (aQ (sg tT ⟨[(3,(vP 7 0)),(80,(vB (bif (Py x)then true else(bif (UI x)then(!decide (x.kind=3))else false))))],(LU x)⟩ (eqs (Py x) 5 (eqs (UI x) 3 [(Py x)=(Py x),gP (iD [(4,(Py x)),(9,(UI x))]) [(4,false)]→All [(UI x)=(UI x)],(Py x)=(Py x)])) {yb:=[(4,(Py x)),(9,(UI x))] } [] (ae (ae ⟨rfl,(fun hg=> ⟨rfl,trivial⟩),rfl,trivial⟩)) ?_))
  refine bI h (fun hb3 h=> ?_) (fun hb3 h=> ?_)
  ·refine ct hb3 ?_
   refine sz tT ⟨[(4,(vB false))],[]⟩ {} [] ?_
   refine aR ?_
   obtain rfl:=oi h
   exact rl [(sB false)]
  ·refine cf hb3 ?_
   refine aP (aQ (sz tT ⟨[(3,(vP 7 0)),(5,(vI 0))],(LU x)⟩ {} [] ?_))
   refine bE h fun y hy h=> ?_
   refine aL [] (Au x) Ay vJ hy (fun s f h=> ?_) ?_
   ·clear hy
    show bJ _ _ _ _ _ _ ((H6 x) f) _
    unfold lD at h
    obtain⟨i,rfl⟩: ∃q,q=s:=⟨_,rfl⟩
    refine aQ (sz tT ⟨[(3,(vP 7 0)),(5,(vI i)),(85,(vB (decide (i<(x.trip.length:Int)))))],(LU x)⟩ {} [] ?_)
    refine bI h (fun hb2 h=> ?_) (fun hb2 h=> ?_)
    ·refine ct hb2 ?_
     refine aP (aQ (aB (aQ (aO h fun a1 h=> ?_))))
     refine rg tT ⟨[(3,(vP 7 0)),(5,(vI i)),(ai5 x i)],(LU x)⟩ [_] {fr:=[(5,11)] } [11] ⟨a1,trivial⟩ ?_
     refine aQ (sg tT ⟨[(3,(vP 7 0)),(5,(vI i)),(ai5 x i),(110,(vB (bif (adX x i)then true else(decide (100000<(Yf x i))))))],(LU x)⟩ (eqs (decide (((at' x.trip i.toNat).amps)<1)) 4 (eqs (adM x i) 4 (eqs (adX x i) 4 []))) {yb:=[(3,(decide (((at' x.trip i.toNat).amps)<1))),(8,(adM x i)),(13,(adX x i))] } [] (ae (ae (ae trivial))) ?_)
     refine bI h (fun hb1 h=> ?_) (fun hb1 h=> ?_)
     ·refine ct hb1 ?_
      refine sz tT ⟨[(4,(vB false))],[]⟩ {} [] ?_
      refine aR ?_
      obtain rfl:=oi h
      exact lR dF (dM 0) dB (bn.mk (.inr rfl) (p:=[]) (l:=[(sB false)]) (by kernel_rfl) trivial (fC.refl _) trivial)
     ·refine cf hb1 ?_
      refine aP (aQ (aO h fun⟨a1,a2⟩ h=> ?_))
      refine dg tT mX ⟨[(3,(vP 7 0)),(5,(vI i)),(136,(vB (k47 x i)))],(LU x)⟩ (eqs (decide (0<i)) 5 ((gP (adl x i) [(2,true)]→All [(0:Int)≤(k13 i)∧(k13 i)<(x.trip.length:Int)])::(eqs (decide (0<i)) 6 (eqs (UY x i) 5 ((gP (adl x i) [(13,false),(2,true)]→All [(0:Int)≤(k13 i)∧(k13 i)<(x.trip.length:Int)])::(eqs (UY x i) 5 [(decide (0<i))=(decide (0<i)),gP (adl x i) [(2,true)]→All [(UY x i)=(UY x i)],(decide (0<i))=(decide (0<i))])))))) {yb:=[(2,(decide (0<i))),(13,(UY x i))] } [] (ae ⟨(fun hg=> ⟨(a1 (aZ hg)),trivial⟩),(ae (ae ⟨(fun hg=> ⟨(a2 (aZ hg)),trivial⟩),(ae ⟨rfl,(fun hg=> ⟨rfl,trivial⟩),rfl,trivial⟩)⟩))⟩) ?_
      refine bI h (fun hb h=> ?_) (fun hb h=> ?_)
      ·refine ct hb ?_
       refine sz tT ⟨[(4,(vB false))],[]⟩ {} [] ?_
       refine aR ?_
       obtain rfl:=oi h
       exact lR dF (dM 0) dB (bn.mk (.inr rfl) (p:=[]) (l:=[(sB false)]) (by kernel_rfl) trivial (fC.refl _) trivial)
      ·refine cf hb ?_
       refine aP (rz tT ⟨[(3,(vP 7 0)),(WJ i)],(LU x)⟩ {} [] ?_)
       obtain rfl:=oi h
       exact lN
    ·refine cf hb2 ?_
     refine aI (fz ⟨[],[]⟩ []) ?_
     refine aX ?_
     obtain rfl:=oi h
     exact lB
   ·clear hy
    cases y with
    |brk z=>
     unfold fZ
     refine⟨_, .refl, ?_⟩
     refine sz tT ⟨[(4,(vB true))],[]⟩ {} [] ?_
     refine aR ?_
     obtain rfl:=oi h
     exact rl [(sB true)]
    |ret v=>
     obtain rfl:=oi h
     unfold fZ
     intro e st hn ha hR
     cases e with
     |normal=>exact absurd rfl hn
     |exit id=>exact hR
     |goto l=>exact hR
     |ret=>exact hR
     |panic c=>exact hR
     |outgrown=>exact hR
def iJ  :Int→Exit→St→Prop:=
  fun r=>bn TT [.tmp 2] (vI r) []
section
variable (p:ai)
abbrev qJ:List (Nat × Option Ob):=[(9,some (k97 p))]
end
def zB (p:ai):Int→St:=
  fun i=> ⟨[(1,(vP 9 0)),(3,(vI i))],(qJ p)⟩
section
variable (p:ai)
abbrev Yi:St:=⟨[(1,(vP 9 0))],(qJ p)⟩
end
def yX (p:ai):Unit→St:=
  fun _=>(Yi p)
def GU (p:ai):(aS Int (Ex Unit Int))→Exit→St→Prop:=
  LQ 0 [] (zB p) (yX p) iJ
def zh (p:ai):Int→St:=
  fun i1=> ⟨[(1,(vP 9 0)),(5,(vI i1))],(qJ p)⟩
def yF (p:ai):Unit→St:=
  fun _=>(Yi p)
def Gv (p:ai):(aS Int (Ex Unit Int))→Exit→St→Prop:=
  LQ 2 [] (zh p) (yF p) iJ
def yT (p:ai):Int→St:=
  fun i2=> ⟨[(1,(vP 9 0)),(6,(vI i2))],(qJ p)⟩
def yU  :Unit→St:=
  fun _=> ⟨[],[]⟩
def Gc (p:ai):(aS Int (Ex Unit Int))→Exit→St→Prop:=
  LQ 4 [] (yT p) yU iJ
section
variable (p:ai) (i:Int) (i2:Int)
abbrev abW:=(bif (decide ((Ki p i)<0))then true else(decide (p.buses≤(Ki p i))))
abbrev ads:=(bif (abW p i)then true else(decide (((at' p.sources i.toNat).kind)<1)))
abbrev adS:=(bif (ads p i)then true else(decide (3<((at' p.sources i.toNat).kind))))
abbrev acK:=(bif (adS p i)then true else(decide (((at' p.sources i.toNat).power)<1)))
abbrev adT:=(bif (acK p i)then true else(decide (100000<((at' p.sources i.toNat).power))))
abbrev adJ:=(bif (adT p i)then true else(decide (((at' p.sources i.toNat).sync)<0)))
abbrev adk:=(bif (adJ p i)then true else(decide (8<((at' p.sources i.toNat).sync))))
abbrev acT:=(bif (adk p i)then true else(decide (((at' p.sources i.toNat).bK)<10)))
abbrev Yb:Nat × TV:=(7,(ahf p i2))
abbrev aaP:Nat × TV:=(8,(vI (KU p i2)))
abbrev aan:Nat × TV:=(9,(vI (Il p i2)))
abbrev ZW:=(decide ((KU p i2)<0))
abbrev aai:=(bif (ZW p i2)then true else(decide (p.buses≤(KU p i2))))
abbrev aaH:=(bif (aai p i2)then true else(decide ((Il p i2)<(-1))))
abbrev Y1:=(bif (aaH p i2)then true else(decide (p.buses≤(Il p i2))))
abbrev aap:=(bif (Y1 p i2)then true else(decide ((KU p i2)=(Il p i2))))
abbrev aaX:=(bif (aap p i2)then true else(decide (((at' p.racks i2.toNat).power)<1)))
abbrev Y5:=(bif (aaX p i2)then true else(decide (100000<((at' p.racks i2.toNat).power))))
abbrev Yq:=(bif (Y5 p i2)then true else(decide (((at' p.racks i2.toNat).paths)<0)))
abbrev aeH:=(eqs (ZW p i2) 5 (eqs (aai p i2) 3 (eqs (aaH p i2) 5 (eqs (Y1 p i2) 4 (eqs (aap p i2) 4 (eqs (aaX p i2) 4 (eqs (Y5 p i2) 4 (eqs (Yq p i2) 5 []))))))))
abbrev aiW:St:=⟨[(1,(vP 9 0)),(6,(uM i2))],(qJ p)⟩
end
theorem qQ (p:ai) {r:Int} (h:jM p=some r):Fn Try.prog 71 (k0 p) [] (vI r) []:=by
 refine fN tT Try.func71 rfl rfl fun B=> ?_
 show bJ _ _ _ _ _ _ (iJ r) _
 unfold jM at h
 refine sz tT (Yi p) {fr:=[(0,9)] } [] ?_
 refine aQ (sg tT ⟨[(1,(vP 9 0)),(18,(vB (bif (decide (p.buses<1))then true else(decide (24<p.buses)))))],(qJ p)⟩ (eqs (decide (p.buses<1)) 4 []) {yb:=[(3,(decide (p.buses<1)))] } [] (ae trivial) ?_)
 refine bI h (fun hb11 h=> ?_) (fun hb11 h=> ?_)
 ·refine ct hb11 ?_
  refine sz tT ⟨[(2,(vI 10))],[]⟩ {} [] ?_
  refine aR ?_
  obtain rfl:=oi h
  exact rl [(sI 10)]
 ·refine cf hb11 ?_
  refine aP (aQ (sz tT ⟨[(1,(vP 9 0)),(22,(vB (decide (8<(p.sources.length:Int)))))],(qJ p)⟩ {} [] ?_))
  refine bI h (fun hb10 h=> ?_) (fun hb10 h=> ?_)
  ·refine ct hb10 ?_
   refine sz tT ⟨[(2,(vI 11))],[]⟩ {} [] ?_
   refine aR ?_
   obtain rfl:=oi h
   exact rl [(sI 11)]
  ·refine cf hb10 ?_
   refine aP (aQ (sz tT ⟨[(1,(vP 9 0)),(3,(vI 0))],(qJ p)⟩ {} [] ?_))
   refine bE h fun y hy h=> ?_
   refine aL [] (zB p) (yX p) iJ hy (fun s f h=> ?_) ?_
   ·clear hy
    show bJ _ _ _ _ _ _ ((GU p) f) _
    unfold j5 at h
    obtain⟨i,rfl⟩: ∃q,q=s:=⟨_,rfl⟩
    refine aQ (sz tT ⟨[(1,(vP 9 0)),(3,(vI i)),(27,(vB (JS p i)))],(qJ p)⟩ {} [] ?_)
    refine bI h (fun hb1 h=> ?_) (fun hb1 h=> ?_)
    ·refine ct hb1 ?_
     refine aP (aQ (aB (aQ (aO h fun a1 h=> ?_))))
     refine rg tT ⟨[(1,(vP 9 0)),(3,(vI i)),(4,(abY p i))],(qJ p)⟩ [_] {fr:=[(5,13)] } [13] ⟨a1,trivial⟩ ?_
     refine sg tT ⟨[(1,(vP 9 0)),(3,(vI i)),(84,(vB (bif (acT p i)then true else(decide (100000<((at' p.sources i.toNat).bK))))))],(qJ p)⟩ (eqs (decide ((Ki p i)<0)) 6 (eqs (abW p i) 4 (eqs (ads p i) 4 (eqs (adS p i) 4 (eqs (acK p i) 4 (eqs (adT p i) 4 (eqs (adJ p i) 4 (eqs (adk p i) 4 (eqs (acT p i) 4 []))))))))) {yb:=[(3,(decide ((Ki p i)<0))),(10,(abW p i)),(15,(ads p i)),(20,(adS p i)),(25,(acK p i)),(30,(adT p i)),(35,(adJ p i)),(40,(adk p i)),(45,(acT p i))] } [] (ae (ae (ae (ae (ae (ae (ae (ae (ae trivial))))))))) ?_
     refine bI h (fun hb h=> ?_) (fun hb h=> ?_)
     ·refine ct hb ?_
      refine sz tT ⟨[(2,(vI 11))],[]⟩ {} [] ?_
      refine aR ?_
      obtain rfl:=oi h
      exact lR dF (dM 0) dB (bn.mk (.inr rfl) (p:=[]) (l:=[(sI 11)]) (by kernel_rfl) trivial (fC.refl _) trivial)
     ·refine cf hb ?_
      refine aP (rz tT ⟨[(1,(vP 9 0)),(3,(uM i))],(qJ p)⟩ {} [] ?_)
      obtain rfl:=oi h
      exact lN
    ·refine cf hb1 ?_
     refine aI (fz (Yi p) []) ?_
     refine aX ?_
     obtain rfl:=oi h
     exact lB
   ·clear hy
    cases y with
    |brk z=>
     unfold fZ
     refine⟨_, .refl, ?_⟩
     refine aQ (sz tT ⟨[(1,(vP 9 0)),(88,(vB (decide (40<(p.links.length:Int)))))],(qJ p)⟩ {} [] ?_)
     refine bI h (fun hb9 h=> ?_) (fun hb9 h=> ?_)
     ·refine ct hb9 ?_
      refine sz tT ⟨[(2,(vI 12))],[]⟩ {} [] ?_
      refine aR ?_
      obtain rfl:=oi h
      exact rl [(sI 12)]
     ·refine cf hb9 ?_
      refine aP (aQ (sz tT ⟨[(1,(vP 9 0)),(5,(vI 0))],(qJ p)⟩ {} [] ?_))
      refine bE h fun y1 hy h=> ?_
      refine aL [] (zh p) (yF p) iJ hy (fun s f h=> ?_) ?_
      ·clear hy
       show bJ _ _ _ _ _ _ ((Gv p) f) _
       unfold kE at h
       obtain⟨i1,rfl⟩: ∃q,q=s:=⟨_,rfl⟩
       refine aQ (sz tT ⟨[(1,(vP 9 0)),(5,(vI i1)),(93,(Ph p i1))],(qJ p)⟩ {} [] ?_)
       refine bI h (fun hb3 h=> ?_) (fun hb3 h=> ?_)
       ·refine ct hb3 ?_
        refine aP (aQ (aB (aQ (bE h fun r_ hr_ h=> ?_))))
        refine aO h fun a1 h=> ?_
        have q1:=Ia p (at' p.links i1.toNat) hr_
        refine dg tT mX ⟨[(1,(vP 9 0)),(5,(vI i1)),(103,(vB (!r_)))],(qJ p)⟩ [_,_] {an:=[(6,cA q1 [])] } [] ⟨a1,q1,trivial⟩ ?_
        refine bI h (fun hb2 h=> ?_) (fun hb2 h=> ?_)
        ·refine ct hb2 ?_
         refine sz tT ⟨[(2,(vI 12))],[]⟩ {} [] ?_
         refine aR ?_
         obtain rfl:=oi h
         exact lR dF (dM 2) dB (bn.mk (.inr rfl) (p:=[]) (l:=[(sI 12)]) (by kernel_rfl) trivial (fC.refl _) trivial)
        ·refine cf hb2 ?_
         refine aP (rz tT ⟨[(1,(vP 9 0)),(WJ i1)],(qJ p)⟩ {} [] ?_)
         obtain rfl:=oi h
         exact lN
       ·refine cf hb3 ?_
        refine aI (fz (Yi p) []) ?_
        refine aX ?_
        obtain rfl:=oi h
        exact lB
      ·clear hy
       cases y1 with
       |brk z=>
        unfold fZ
        refine⟨_, .refl, ?_⟩
        refine aQ (sz tT ⟨[(1,(vP 9 0)),(107,(vB (decide (24<(p.racks.length:Int)))))],(qJ p)⟩ {} [] ?_)
        refine bI h (fun hb8 h=> ?_) (fun hb8 h=> ?_)
        ·refine ct hb8 ?_
         refine sz tT ⟨[(2,(vI 13))],[]⟩ {} [] ?_
         refine aR ?_
         obtain rfl:=oi h
         exact rl [(sI 13)]
        ·refine cf hb8 ?_
         refine aP (aQ (sz tT ⟨[(1,(vP 9 0)),(6,(vI 0))],(qJ p)⟩ {} [] ?_))
         refine bE h fun y2 hy h=> ?_
         refine aL [] (yT p) yU iJ hy (fun s f h=> ?_) ?_
         ·clear hy
          show bJ _ _ _ _ _ _ ((Gc p) f) _
          unfold kG at h
          obtain⟨i2,rfl⟩: ∃q,q=s:=⟨_,rfl⟩
          refine aQ (sz tT ⟨[(1,(vP 9 0)),(6,(vI i2)),(112,(vB (decide (i2<(p.racks.length:Int)))))],(qJ p)⟩ {} [] ?_)
          refine bI h (fun hb7 h=> ?_) (fun hb7 h=> ?_)
          ·refine ct hb7 ?_
           refine aP (aQ (aB (aQ (aO h fun a1 h=> ?_))))
           refine rg tT ⟨[(1,(vP 9 0)),(6,(vI i2)),(Yb p i2)],(qJ p)⟩ [_] {fr:=[(5,17)] } [17] ⟨a1,trivial⟩ ?_
           refine sd tT mX ⟨[(1,(vP 9 0)),(6,(vI i2)),(Yb p i2),(aaP p i2),(aan p i2)],(qJ p)⟩ [(0:Int)≤0∧(0:Int)<(2:Nat),(0:Int)≤1∧(1:Int)<(2:Nat)] {} [] ⟨((by decide)),((by decide)),trivial⟩ ?_
           refine sz tT ⟨[(1,(vP 9 0)),(6,(vI i2)),(Yb p i2),(aaP p i2),(aan p i2),(10,(vI 2))],(qJ p)⟩ {} [] ?_
           refine aQ (sz tT ⟨[(1,(vP 9 0)),(6,(vI i2)),(Yb p i2),(aaP p i2),(aan p i2),(10,(vI 2)),(127,(vB (decide ((Il p i2)=(-1)))))],(qJ p)⟩ {} [] ?_)
           refine bI h (fun hb6 h=> ?_) (fun hb6 h=> ?_)
           ·refine ct hb6 ?_
            refine rz tT ⟨[(1,(vP 9 0)),(6,(vI i2)),(Yb p i2),(aaP p i2),(aan p i2),(10,(vI 1))],(qJ p)⟩ {} [] ?_
            refine sg tT ⟨[(1,(vP 9 0)),(6,(vI i2)),(171,(vB (bif (Yq p i2)then true else(decide (1<((at' p.racks i2.toNat).paths))))))],(qJ p)⟩ (aeH p i2) {yb:=[(2,(ZW p i2)),(8,(aai p i2)),(12,(aaH p i2)),(18,(Y1 p i2)),(23,(aap p i2)),(28,(aaX p i2)),(33,(Y5 p i2)),(38,(Yq p i2))] } [] (ae (ae (ae (ae (ae (ae (ae (ae trivial)))))))) ?_
            refine bI h (fun hb4 h=> ?_) (fun hb4 h=> ?_)
            ·refine ct hb4 ?_
             refine sz tT ⟨[(2,(vI 13))],[]⟩ {} [] ?_
             refine aR ?_
             obtain rfl:=oi h
             exact lR dF (dM 4) dB (bn.mk (.inr rfl) (p:=[]) (l:=[(sI 13)]) (by kernel_rfl) trivial (fC.refl _) trivial)
            ·refine cf hb4 ?_
             refine aP (rz tT (aiW p i2) {} [] ?_)
             obtain rfl:=oi h
             exact lN
           ·refine cf hb6 ?_
            refine aP (sg tT ⟨[(1,(vP 9 0)),(6,(vI i2)),(171,(vB (bif (Yq p i2)then true else(decide (2<((at' p.racks i2.toNat).paths))))))],(qJ p)⟩ (aeH p i2) {yb:=[(2,(ZW p i2)),(8,(aai p i2)),(12,(aaH p i2)),(18,(Y1 p i2)),(23,(aap p i2)),(28,(aaX p i2)),(33,(Y5 p i2)),(38,(Yq p i2))] } [] (ae (ae (ae (ae (ae (ae (ae (ae trivial)))))))) ?_)
            refine bI h (fun hb5 h=> ?_) (fun hb5 h=> ?_)
            ·refine ct hb5 ?_
             refine sz tT ⟨[(2,(vI 13))],[]⟩ {} [] ?_
             refine aR ?_
             obtain rfl:=oi h
             exact lR dF (dM 4) dB (bn.mk (.inr rfl) (p:=[]) (l:=[(sI 13)]) (by kernel_rfl) trivial (fC.refl _) trivial)
            ·refine cf hb5 ?_
             refine aP (rz tT (aiW p i2) {} [] ?_)
             obtain rfl:=oi h
             exact lN
          ·refine cf hb7 ?_
           refine aI (fz ⟨[],[]⟩ []) ?_
           refine aX ?_
           obtain rfl:=oi h
           exact lB
         ·clear hy
          cases y2 with
          |brk z=>
           unfold fZ
           refine⟨_, .refl, ?_⟩
           refine sz tT ⟨[(2,(vI 0))],[]⟩ {} [] ?_
           refine aR ?_
           obtain rfl:=oi h
           exact rl [(sI 0)]
          |ret v=>
           obtain rfl:=oi h
           unfold fZ
           intro e st hn ha hR
           cases e with
           |normal=>exact absurd rfl hn
           |exit id=>exact hR
           |goto l=>exact hR
           |ret=>exact hR
           |panic c=>exact hR
           |outgrown=>exact hR
       |ret v=>
        obtain rfl:=oi h
        unfold fZ
        intro e st hn ha hR
        cases e with
        |normal=>exact absurd rfl hn
        |exit id=>exact hR
        |goto l=>exact hR
        |ret=>exact hR
        |panic c=>exact hR
        |outgrown=>exact hR
    |ret v=>
     obtain rfl:=oi h
     unfold fZ
     intro e st hn ha hR
     cases e with
     |normal=>exact absurd rfl hn
     |exit id=>exact hR
     |goto l=>exact hR
     |ret=>exact hR
     |panic c=>exact hR
     |outgrown=>exact hR
def xZ  :Bool→Exit→St→Prop:=
  fun r=>bn TT [.tmp 2] (vB r) []
def Cg (p:ai):Int→St:=
  fun i=> ⟨[(k6 p),(3,(vI i))],[]⟩
def Cj (p:ai):Unit→St:=
  fun _=>(k5 p)
def Js (p:ai):(aS Int (Ex Unit Bool))→Exit→St→Prop:=
  LQ 0 [] (Cg p) (Cj p) xZ
section
variable (p:ai) (r_:Int)
abbrev adj:=(bif (decide (60<(p.sources.length:Int)))then true else(decide (60<(p.links.length:Int))))
abbrev aic:=(bif (decide (r_=0))then(bif (decide (10<p.buses))then true else(decide (16<(p.links.length:Int))))else false)
end
theorem JP (p:ai) {r:Bool} (h:sH p=some r):Fn Try.prog 22 (k0 p) [] (vB r) []:=by
 refine fN tT Try.func22 rfl rfl fun B=> ?_
 show bJ _ _ _ _ _ _ (xZ r) _
 unfold sH at h
 refine sz tT (k5 p) {fr:=[(0,1)] } [1] ?_
 refine aQ (sg tT ⟨[(k6 p),(19,(vB (bif (adj p)then true else(decide (60<(p.racks.length:Int))))))],[]⟩ (eqs (decide (60<(p.sources.length:Int))) 5 (eqs (adj p) 5 [])) {yb:=[(4,(decide (60<(p.sources.length:Int)))),(10,(adj p))] } [] (ae (ae trivial)) ?_)
 refine bI h (fun hb2 h=> ?_) (fun hb2 h=> ?_)
 ·refine ct hb2 ?_
  refine sz tT ⟨[(2,(vB true))],[]⟩ {} [] ?_
  refine aR ?_
  obtain rfl:=oi h
  exact rl [(sB true)]
 ·refine cf hb2 ?_
  refine aP (aQ (sz tT ⟨[(k6 p),(3,(vI 0))],[]⟩ {} [] ?_))
  refine bE h fun y hy h=> ?_
  refine aL [] (Cg p) (Cj p) xZ hy (fun s f h=> ?_) ?_
  ·clear hy
   show bJ _ _ _ _ _ _ ((Js p) f) _
   unfold mU at h
   obtain⟨i,rfl⟩: ∃q,q=s:=⟨_,rfl⟩
   refine aQ (sz tT ⟨[(k6 p),(3,(vI i)),(24,(Ph p i))],[]⟩ {} [] ?_)
   refine bI h (fun hb1 h=> ?_) (fun hb1 h=> ?_)
   ·refine ct hb1 ?_
    refine aP (aQ (aB (aQ (aO h fun a1 h=> ?_))))
    refine rg tT ⟨[(k6 p),(3,(vI i)),(34,(vB (decide (20<(((at' p.links i.toNat).trip).length:Int)))))],[]⟩ [_] {} [] ⟨a1,trivial⟩ ?_
    refine bI h (fun hb h=> ?_) (fun hb h=> ?_)
    ·refine ct hb ?_
     refine sz tT ⟨[(2,(vB true))],[]⟩ {} [] ?_
     refine aR ?_
     obtain rfl:=oi h
     exact lR dF (dM 0) dB (bn.mk (.inr rfl) (p:=[]) (l:=[(sB true)]) (by kernel_rfl) trivial (fC.refl _) trivial)
    ·refine cf hb ?_
     refine aP (rz tT ⟨[(k6 p),(3,(uM i))],[]⟩ {} [] ?_)
     obtain rfl:=oi h
     exact lN
   ·refine cf hb1 ?_
    refine aI (fz (k5 p) []) ?_
    refine aX ?_
    obtain rfl:=oi h
    exact lB
  ·clear hy
   cases y with
   |brk z=>
    unfold fZ
    refine⟨_, .refl, ?_⟩
    refine aQ (bE h fun r_ hr_ h=> ?_)
    have q0:=qQ p hr_
    refine rg tT ⟨[(2,(vB (aic p r_)))],[]⟩ (_::(eqs (decide (r_=0)) 4 (eqs (decide (10<p.buses)) 4 [(decide (r_=0))=(decide (r_=0)),gP (iD [(3,(decide (r_=0))),(7,(decide (10<p.buses)))]) [(3,true)]→All [(decide (10<p.buses))=(decide (10<p.buses))],(decide (r_=0))=(decide (r_=0))]))) {yb:=[(3,(decide (r_=0))),(7,(decide (10<p.buses)))],an:=[(1,cA q0 [])] } [] ⟨q0,(ae (ae ⟨rfl,(fun hg=> ⟨rfl,trivial⟩),rfl,trivial⟩))⟩ ?_
    refine aR ?_
    obtain rfl:=oi h
    exact rl [(sB (aic p r_))]
   |ret v=>
    obtain rfl:=oi h
    unfold fZ
    intro e st hn ha hR
    cases e with
    |normal=>exact absurd rfl hn
    |exit id=>exact hR
    |goto l=>exact hR
    |ret=>exact hR
    |panic c=>exact hR
    |outgrown=>exact hR
def tF  :Bool→Exit→St→Prop:=
  fun r=>bn TT [.tmp 4] (vB r) []
section
variable (p:ai)
abbrev Sd:Nat × TV:=(5,(vI (p.links.length:Int)))
end
def zq (p:ai) (s_:State):Int→St:=
  fun i=> ⟨[(fo p),(jU s_),(Sd p),(8,(vI i))],[]⟩
def yo  :Unit→St:=
  fun _=> ⟨[],[]⟩
def Gj (p:ai) (s_:State):(aS Int (Ex Unit Bool))→Exit→St→Prop:=
  LQ 0 [] (zq p s_) yo tF
section
variable (s_:State) (p:ai) (i:Int)
abbrev ady:=(!decide ((s_.closed.length:Int)=(p.links.length:Int)))
abbrev ad5:=(bif (ady s_ p)then true else(!decide ((s_.locked.length:Int)=(p.links.length:Int))))
abbrev acM:=(bif (ad5 s_ p)then true else(!decide ((s_.badLink.length:Int)=(p.links.length:Int))))
abbrev adg:=(bif (acM s_ p)then true else(!decide ((s_.on_.length:Int)=(p.sources.length:Int))))
abbrev aei:=(bif (adg s_ p)then true else(!decide ((s_.badSource.length:Int)=(p.sources.length:Int))))
abbrev acn:=(bif (aei s_ p)then true else(!decide ((s_.earthed.length:Int)=p.buses)))
abbrev ac7:=(iD [(7,(Bu p i)),(14,(CS s_ i))])
end
theorem GK (p:ai) (s_:State) {r:Bool} (h:nW p s_=some r):Fn Try.prog 85 (Iq s_ p) [] (vB r) []:=by
 refine fN tT Try.func85 rfl rfl fun B=> ?_
 show bJ _ _ _ _ _ _ (tF r) _
 unfold nW at h
 refine sz tT (O4 p s_) {fr:=[(0,2),(1,3)] } [2,3] ?_
 refine sd tT mX ⟨[(fo p),(jU s_),(Sd p),(6,(vI (p.sources.length:Int))),(7,(vI p.buses))],[]⟩ [] {} [] trivial ?_
 refine aQ (sg tT ⟨[(fo p),(jU s_),(Sd p),(63,(vB (bif (acn s_ p)then true else(!decide ((s_.badBus.length:Int)=p.buses)))))],[]⟩ (eqs (ady s_ p) 6 (eqs (ad5 s_ p) 6 (eqs (acM s_ p) 6 (eqs (adg s_ p) 6 (eqs (aei s_ p) 6 (eqs (acn s_ p) 6 [])))))) {yb:=[(5,(ady s_ p)),(12,(ad5 s_ p)),(19,(acM s_ p)),(26,(adg s_ p)),(33,(aei s_ p)),(40,(acn s_ p))] } [] (ae (ae (ae (ae (ae (ae trivial)))))) ?_)
 refine bI h (fun hb2 h=> ?_) (fun hb2 h=> ?_)
 ·refine ct hb2 ?_
  refine sz tT ⟨[(4,(vB false))],[]⟩ {} [] ?_
  refine aR ?_
  obtain rfl:=oi h
  exact rl [(sB false)]
 ·refine cf hb2 ?_
  refine aP (aQ (sz tT ⟨[(fo p),(jU s_),(Sd p),(8,(vI 0))],[]⟩ {} [] ?_))
  refine bE h fun y hy h=> ?_
  refine aL [] (zq p s_) yo tF hy (fun s f h=> ?_) ?_
  ·clear hy
   show bJ _ _ _ _ _ _ ((Gj p s_) f) _
   unfold jY at h
   obtain⟨i,rfl⟩: ∃q,q=s:=⟨_,rfl⟩
   refine aQ (sz tT ⟨[(fo p),(jU s_),(Sd p),(8,(vI i)),(66,(Ph p i))],[]⟩ {} [] ?_)
   refine bI h (fun hb1 h=> ?_) (fun hb1 h=> ?_)
   ·refine ct hb1 ?_
    refine aP (aQ (aB (aQ (aO h fun⟨a1,a2,a3⟩ h=> ?_))))
    refine rg tT ⟨[(fo p),(jU s_),(Sd p),(8,(vI i)),(90,(afK s_ p i))],[]⟩ (_::(eqs (Bu p i) 4 ((gP (ac7 s_ p i) [(7,true)]→All [(0:Int)≤i∧i<(s_.closed.length:Int)])::(eqs (Bu p i) 3 (eqs (CS s_ i) 4 [gP (ac7 s_ p i) [(14,false),(7,true)]→All [(0:Int)≤i∧i<(s_.locked.length:Int)],(CS s_ i)=(CS s_ i),(Bu p i)=(Bu p i),gP (ac7 s_ p i) [(7,true)]→All [(CS s_ i)=(CS s_ i)],(Bu p i)=(Bu p i)]))))) {yb:=[(7,(Bu p i)),(14,(CS s_ i))] } [] ⟨a1,(ae ⟨(fun hg=> ⟨(a2 (aZ hg)),trivial⟩),(ae (ae ⟨(fun hg=> ⟨(a3 (aZ hg)),trivial⟩),rfl,rfl,(fun hg=> ⟨rfl,trivial⟩),rfl,trivial⟩))⟩)⟩ ?_
    refine bI h (fun hb h=> ?_) (fun hb h=> ?_)
    ·refine ct hb ?_
     refine sz tT ⟨[(4,(vB false))],[]⟩ {} [] ?_
     refine aR ?_
     obtain rfl:=oi h
     exact lR dF (dM 0) dB (bn.mk (.inr rfl) (p:=[]) (l:=[(sB false)]) (by kernel_rfl) trivial (fC.refl _) trivial)
    ·refine cf hb ?_
     refine aP (rz tT ⟨[(fo p),(jU s_),(Sd p),(Vd i)],[]⟩ {} [] ?_)
     obtain rfl:=oi h
     exact lN
   ·refine cf hb1 ?_
    refine aI (fz ⟨[],[]⟩ []) ?_
    refine aX ?_
    obtain rfl:=oi h
    exact lB
  ·clear hy
   cases y with
   |brk z=>
    unfold fZ
    refine⟨_, .refl, ?_⟩
    refine sz tT ⟨[(4,(vB true))],[]⟩ {} [] ?_
    refine aR ?_
    obtain rfl:=oi h
    exact rl [(sB true)]
   |ret v=>
    obtain rfl:=oi h
    unfold fZ
    intro e st hn ha hR
    cases e with
    |normal=>exact absurd rfl hn
    |exit id=>exact hR
    |goto l=>exact hR
    |ret=>exact hR
    |panic c=>exact hR
    |outgrown=>exact hR
def Cs  :Int→Exit→St→Prop:=
  fun r=>bn TT [.tmp 4] (vI r) []
theorem lQ (p:ai) (s_:State) {r:Int} (h:fq p s_=some r):Fn Try.prog 37 (Iq s_ p) [] (vI r) []:=by
 refine fN tT Try.func37 rfl rfl fun B=> ?_
 show bJ _ _ _ _ _ _ (Cs r) _
 unfold fq at h
 refine sz tT (O4 p s_) {fr:=[(0,2),(1,3)] } [2,3] ?_
 refine aQ (bE h fun r_ hr_ h=> ?_)
 have q0:=qQ p hr_
 refine rg tT ⟨[(fo p),(jU s_),(5,(vI r_))],[]⟩ [_] {an:=[(1,cA q0 [])] } [] ⟨q0,trivial⟩ ?_
 refine aQ (aQ (bE h fun u0 hr_1 h=> ?_))
 refine rg tT ⟨[(5,(vI r_)),(15,(vB (bif (decide (r_=0))then(!u0)else false)))],[]⟩ (eqs (decide (r_=0)) 3 ((gP (iD [(2,(decide (r_=0)))]) [(2,true)]→All [Fn Try.prog 85 (Iq s_ p) [] (vB u0) []])::(eqs (decide (r_=0)) 2 []))) {yb:=[(2,(decide (r_=0)))],an:=[(5, .call [] (vB u0) [])] } [] (ae ⟨(fun hg=> ⟨(GK p s_ (gD hr_1 (aZ hg))),trivial⟩),(ae trivial)⟩) ?_
 refine bI h (fun hb h=> ?_) (fun hb h=> ?_)
 ·refine ct hb ?_
  refine rz tT ⟨[(5,(vI 9))],[]⟩ {} [] ?_
  refine sz tT ⟨[(4,(vI 9))],[]⟩ {} [] ?_
  refine aR ?_
  obtain rfl:=oi h
  exact rl [(sI 9)]
 ·refine cf hb ?_
  refine aP (sz tT ⟨[(4,(vI r_))],[]⟩ {} [] ?_)
  refine aR ?_
  obtain rfl:=oi h
  exact rl [(sI r_)]
def Bc  :(List Bool)→Exit→St→Prop:=
  fun r=>bn TT [.tmp 2] (vO 0 false r.length) [(0,some (aG 4 1 ah r))]
section
variable (l:(List Bool))
abbrev NH:Nat × TV:=(0,(vD (aC none 1 ah l)))
end
theorem dA (l:(List Bool)) {r:(List Bool)} (h:bZ l=some r):Fn Try.prog 64 [(sD (aC none 1 ah l))] [] (vO 0 false r.length) [(0,some (aG 4 1 ah r))]:=by
 refine fN tT Try.func64 rfl rfl fun B=> ?_
 show bJ _ _ _ _ _ _ (Bc r) _
 unfold bZ at h
 refine sz tT ⟨[(NH l)],[]⟩ {} [] ?_
 refine sz tT ⟨[(NH l),(3,(vD nS))],[]⟩ {} [] ?_
 refine aQ (aO h fun⟨a1,a2⟩ h=> ?_)
 refine rg tT ⟨[(2,(vO 1 false l.length))],[(1,some (aG 4 1 ah l))]⟩ [_,_,l.length=l.length,aY l.length 1 (au ah l) (au ah l)] {an:=[(2, .arr l.length (au ah l))],fr:=[(2,1)] } [] ⟨a1,a2,rfl,(vK _ _ _),trivial⟩ ?_
 refine aI (bG.fin (st':=⟨[(2,(vO 0 false l.length))],[(0,some (aG 4 1 ah l))]⟩) (cs:=[]) ⟨[],[(1,0)]⟩ [2] (by kernel_rfl) trivial) ?_
 refine aR ?_
 obtain rfl:=oi h
 exact rl [(.one (.own 0 false l.length))]
def II  :Bool→Exit→St→Prop:=
  fun r=>bn TT [.tmp 6] (vB r) []
theorem F4 (p:ai) (s_:State) (k:Int) {r:Bool} (h:nV p s_ k=some r):Fn Try.prog 83 (Qm p s_ k) [] (vB r) []:=by
 refine fN tT Try.func83 rfl rfl fun B=> ?_
 show bJ _ _ _ _ _ _ (II r) _
 unfold nV at h
 refine sz tT (Zh p s_ k) {fr:=[(0,2),(1,3)] } [2,3] ?_
 refine aQ (aO h fun⟨a1,a2,a3,a4⟩ h=> ?_)
 refine dg tT mX (agj p s_ k) (_::(ag5 p s_ k)) {yb:=[(5,(at' s_.on_ k.toNat)),(13,(Oa s_ k))] } [] ⟨a1,(ae ⟨(fun hg=> ⟨(a2 (aZ hg)),trivial⟩),(ae (ae ⟨(fun hg=> ⟨(a3 (aZ hg)),trivial⟩),(ae ⟨(fun hg=> ⟨(a4 (aZ hg)),trivial⟩),(ae trivial)⟩)⟩))⟩)⟩ ?_
 refine aR ?_
 obtain rfl:=oi h
 exact rl (ahz p s_ k)
def D6  :Bool→Exit→St→Prop:=
  fun r=>bn TT [.tmp 6] (vB r) []
section
variable (s_:State) (i:Int) (p:ai)
abbrev Wu:=(iD [(5,(at' s_.closed i.toNat)),(13,(Ld s_ i)),(26,(OH s_ i p))])
end
theorem jV (p:ai) (s_:State) (i:Int) {r:Bool} (h:eD p s_ i=some r):Fn Try.prog 84 (Qm p s_ i) [] (vB r) []:=by
 refine fN tT Try.func84 rfl rfl fun B=> ?_
 show bJ _ _ _ _ _ _ (D6 r) _
 unfold eD at h
 refine sz tT (Zh p s_ i) {fr:=[(0,2),(1,3)] } [2,3] ?_
 refine aQ (aO h fun⟨a1,a2,a3,a4,a5,a6⟩ h=> ?_)
 refine dg tT mX (aik s_ i p) (_::(eqs (at' s_.closed i.toNat) 4 ((gP (Wu s_ i p) [(5,true)]→All [(0:Int)≤i∧i<(s_.badLink.length:Int)])::(eqs (at' s_.closed i.toNat) 3 (eqs (Ld s_ i) 6 ((gP (Wu s_ i p) [(13,true)]→All [(0:Int)≤i∧i<(p.links.length:Int)])::(eqs (Ld s_ i) 3 ((gP (Wu s_ i p) [(13,true)]→All [(0:Int)≤(at' p.links i.toNat).a∧(at' p.links i.toNat).a<(s_.badBus.length:Int)])::(eqs (Ld s_ i) 3 (eqs (OH s_ i p) 6 ((gP (Wu s_ i p) [(26,true)]→All [(0:Int)≤i∧i<(p.links.length:Int)])::(eqs (OH s_ i p) 3 ((gP (Wu s_ i p) [(26,true)]→All [(0:Int)≤(at' p.links i.toNat).b∧(at' p.links i.toNat).b<(s_.badBus.length:Int)])::(aiu s_ i p)))))))))))))) {yb:=[(5,(at' s_.closed i.toNat)),(13,(Ld s_ i)),(26,(OH s_ i p))] } [] ⟨a1,(ae ⟨(fun hg=> ⟨(a2 (aZ hg)),trivial⟩),(ae (ae ⟨(fun hg=> ⟨(a3 (aZ hg)),trivial⟩),(ae ⟨(fun hg=> ⟨(a4 (aZ hg)),trivial⟩),(ae (ae ⟨(fun hg=> ⟨(a5 (aZ hg)),trivial⟩),(ae ⟨(fun hg=> ⟨(a6 (aZ hg)),trivial⟩),(ae trivial)⟩)⟩))⟩)⟩))⟩)⟩ ?_
 refine aR ?_
 obtain rfl:=oi h
 exact rl (agw s_ i p)
def p9  :Bool→Exit→St→Prop:=
  fun r=>bn TT [.tmp 8] (vB r) []
section
variable (u0:(List Int))
abbrev PX:Nat × TV:=(3,(PZ u0))
end
def vY (l:(List Int)) (u0:(List Int)):Int→St:=
  fun i=> ⟨[(uz l),(PX u0),(9,(vI i))],[]⟩
def uW  :Unit→St:=
  fun _=> ⟨[],[]⟩
def Es (l:(List Int)) (u0:(List Int)):(aS Int (Ex Unit Bool))→Exit→St→Prop:=
  LQ 0 [] (vY l u0) uW p9
end
end Sg
