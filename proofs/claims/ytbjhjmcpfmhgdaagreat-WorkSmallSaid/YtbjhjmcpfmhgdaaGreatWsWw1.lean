import Derived.Test.YtbjhjmcpfmhgdaaGreatWsLg
set_option linter.all false
namespace Sg
open Go
def V4 {ρ:Type} (o:Option (aI Int (Ex Unit ρ))) (n:Int):Bool:=match o with|some (.next m)=>decide (m=n)|_=>false
theorem RV {ρ:Type} {o:Option (aI Int (Ex Unit ρ))} {n:Int} (h:V4 o n=true):o=some (.next n):=by
 unfold V4 at h
 split at h
 ·rw [of_decide_eq_true h]
 ·cases h
theorem SA:aD lu FUEL 0=some (.brk ()):=by kernel_rfl
def WW (a n:Nat):Bool:=(List.range n).all fun k=>V4 (eB WJ ((a+k:Nat):Int)) ((a+k+1:Nat):Int)
theorem SG:WW 0 10=true:=by kernel_rfl
theorem Tx:WW 10 10=true:=by kernel_rfl
theorem Sl:WW 20 10=true:=by kernel_rfl
theorem Ty:WW 30 10=true:=by kernel_rfl
theorem IL {a n:Nat} (h:WW a n=true) {k:Nat} (h1:a≤k) (h2:k<a+n):dw (k:Int)=some (.next ((k+1:Nat):Int)):=by
 have:=List.all_eq_true.mp h (k - a) (List.mem_range.mpr (by omega))
 have h3:=RV this
 rw [show a+(k - a)=k by omega]at h3
 show eB fV (k:Int)=_
 rw [II];exact h3
theorem Qp:aD dw FUEL ((0:Nat):Int)=some (.brk ()):=by
 refine NW (body:=dw) (fun k=>(k:Int)) 40 _ (fuel_lt (by omega)) (fun k hk=> ?_) ?_
 ·by_cases h1:k<10
  ·exact IL SG (by omega) (by omega)
  by_cases h2:k<20
  ·exact IL Tx (by omega) (by omega)
  by_cases h3:k<30
  ·exact IL Sl (by omega) (by omega)
  exact IL Ty (by omega) (by omega)
 ·unfold dw eB
  rw [decide_eq_false (by omega)];rfl
theorem FO:gX=some true:=by
 unfold gX
 rw [SA,Option.bind_some]
 simp only
 rw [show aD dw FUEL 0=_ from Qp,Option.bind_some]
 simp only
 rw [Lv];rfl
end Sg
