/- The pure statement of ValueMakes. -/
import Derived.Test.YthghflgmeepnlaaHj
namespace Go.Proofs.Ythghflgmeepnlaa.Pure
open Go.Proofs.Ythghflgmeepnlaa.Pa
theorem ValueMakes (a0 : Bool) (a1 : Int) (_ : (Lit.int .i64 a1).wf = true) (a2 : ByteArray) (_ : a2.size ≤ 140737488351232) (a3_0 a3_1 : Int) (a3_2 : ByteArray) (_ : (Lit.int .i64 a3_0).wf = true) (_ : (Lit.int .i64 a3_1).wf = true) (_ : a3_2.size ≤ maxLen) :
    cordonlaw01_ValueMakes.f a0 a1 a2 a3_0 a3_1 a3_2 = some true := rfl
end Go.Proofs.Ythghflgmeepnlaa.Pure
