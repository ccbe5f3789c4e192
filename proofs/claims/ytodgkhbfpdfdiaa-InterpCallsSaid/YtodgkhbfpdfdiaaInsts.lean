/- The laws of single operations, at this program's types: by program (instgen.py). -/
import Derived.Test.YtodgkhbfpdfdiaaLaws2
import Derived.Test.YtodgkhbfpdfdiaaProg
import Derived.KernelRfl
namespace Go.Proofs.Ytodgkhbfpdfdiaa
open Go.Vc

end Go.Proofs.Ytodgkhbfpdfdiaa
