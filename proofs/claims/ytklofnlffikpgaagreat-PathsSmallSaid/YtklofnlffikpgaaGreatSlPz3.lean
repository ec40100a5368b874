import Derived.Test.YtklofnlffikpgaaGreatSlLh
set_option linter.all false
namespace Sg
open Go
theorem afk:BM 16=true:=by kernel_rfl
theorem afA:BM 17=true:=by kernel_rfl
theorem ae2:BM 18=true:=by kernel_rfl
theorem afF:BM 19=true:=by kernel_rfl
theorem afj:BM 20=true:=by kernel_rfl
theorem afv:BM 21=true:=by kernel_rfl
theorem ae8:BM 22=true:=by kernel_rfl
theorem afp:BM 23=true:=by kernel_rfl
end Sg
