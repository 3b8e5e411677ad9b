/- The closed sentence of rows, from its contract. -/
import Derived.Test.YtkmdhipnojcaaaaGreatLFnsR
import Derived.Test.YtkmdhipnojcaaaaGreatLRow
namespace Go.Proofs.YtkmdhipnojcaaaaGreat
open Go.Lst
theorem law_RowNames : T_law20_RowNames = true := rfl
end Go.Proofs.YtkmdhipnojcaaaaGreat
