/- The closed sentence of joints, from its contract. -/
import Derived.Test.YtghcighgalnjmaaGreatLFnsJ
import Derived.Test.YtghcighgalnjmaaGreatLRow
namespace Go.Proofs.YtghcighgalnjmaaGreat
open Go.Lst
theorem law_JointNames : T_law19_JointNames = true := rfl
end Go.Proofs.YtghcighgalnjmaaGreat
