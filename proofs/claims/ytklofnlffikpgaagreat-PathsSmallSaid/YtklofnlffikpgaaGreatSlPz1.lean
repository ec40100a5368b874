import Derived.Test.YtklofnlffikpgaaGreatSlLh
set_option linter.all false
namespace Sg
open Go
theorem oc0:BM 0=true:=by kernel_rfl
theorem oc1:BM 1=true:=by kernel_rfl
theorem oc2:BM 2=true:=by kernel_rfl
theorem oc3:BM 3=true:=by kernel_rfl
theorem oc4:BM 4=true:=by kernel_rfl
theorem oc5:BM 5=true:=by kernel_rfl
theorem oc6:BM 6=true:=by kernel_rfl
theorem oc7:BM 7=true:=by kernel_rfl
end Sg
