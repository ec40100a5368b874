import Derived.Test.YtklofnlffikpgaaGreatSlLh
set_option linter.all false
namespace Sg
open Go
theorem oc8:BM 8=true:=by kernel_rfl
theorem oc9:BM 9=true:=by kernel_rfl
theorem afK:BM 10=true:=by kernel_rfl
theorem ae0:BM 11=true:=by kernel_rfl
theorem ae4:BM 12=true:=by kernel_rfl
theorem afL:BM 13=true:=by kernel_rfl
theorem ae6:BM 14=true:=by kernel_rfl
theorem afG:BM 15=true:=by kernel_rfl
end Sg
