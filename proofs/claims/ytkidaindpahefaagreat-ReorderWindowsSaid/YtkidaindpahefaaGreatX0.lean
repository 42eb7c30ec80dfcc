/- The number of bits of a small number. -/
import Derived.Test.YtkidaindpahefaaGreatX3
import Derived.Test.YtkidaindpahefaaGreatProg
set_option linter.unusedSimpArgs false
set_option linter.unusedVariables false
set_option linter.unusedSectionVars false
set_option linter.unnecessarySimpa false
set_option maxRecDepth 100000
set_option maxHeartbeats 8000000
namespace Go.Proofs.YtkidaindpahefaaGreat
open Go.Proofs.Tryz
open Go.RowKit
theorem Us (x:Nat)(hx:x<64)(w:Wd):Cl 194 #[.int .u64 x] w fun e w'=>(∃ z,e=.returned (Iv z))/\w=w':=by
 have h1:¬ ((x:Int)>=4294967296):=by omega
 have h2:¬ ((x:Int)>=65536):=by omega
 have h3:¬ ((x:Int)>=256):=by omega
 go_enter func194,ntmps194
 go_wp2_with fail;go_ret;exact⟨⟨_,rfl⟩,rfl⟩
end Go.Proofs.YtkidaindpahefaaGreat
