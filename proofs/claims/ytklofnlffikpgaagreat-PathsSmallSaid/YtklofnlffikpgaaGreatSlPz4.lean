import Derived.Test.YtklofnlffikpgaaGreatSlLh
set_option linter.all false
namespace Sg
open Go
theorem afl:BM 24=true:=by kernel_rfl
theorem afa:BM 25=true:=by kernel_rfl
theorem afg:BM 26=true:=by kernel_rfl
theorem afh:BM 27=true:=by kernel_rfl
theorem afC:BM 28=true:=by kernel_rfl
theorem afi:BM 29=true:=by kernel_rfl
theorem ae7:BM 30=true:=by kernel_rfl
theorem afs:BM 31=true:=by kernel_rfl
end Sg
