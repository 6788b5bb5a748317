/- The pure statement of ValueLaws. -/
import Derived.Test.YthghflgmeepnlaaHq
namespace Go.Proofs.Ythghflgmeepnlaa.Pure
open Go.Proofs.Ythghflgmeepnlaa.Pa
theorem ValueLaws (a0_0 a0_1 : Int) (a0_2 : ByteArray) (_ : (Lit.int .i64 a0_0).wf = true) (_ : (Lit.int .i64 a0_1).wf = true) (_ : a0_2.size ≤ maxLen) (a1_0 a1_1 : Int) (a1_2 : ByteArray) (_ : (Lit.int .i64 a1_0).wf = true) (_ : (Lit.int .i64 a1_1).wf = true) (_ : a1_2.size ≤ maxLen) (a2_0 a2_1 : Int) (a2_2 : ByteArray) (_ : (Lit.int .i64 a2_0).wf = true) (_ : (Lit.int .i64 a2_1).wf = true) (_ : a2_2.size ≤ maxLen) :
    cordonlaw01_ValueLaws.f a0_0 a0_1 a0_2 a1_0 a1_1 a1_2 a2_0 a2_1 a2_2 = some true := rfl
end Go.Proofs.Ythghflgmeepnlaa.Pure
